/- Parts of the proofs of the statements of this seat: PlanZ2, PlanZ3, PlanZ4, PlanZ5, PlanL1, PlanL3, PlanZ6, PlanZ7, WPlanOwn. No conditions. -/
import Derived.Test.YtegmecenafkllaaPlanOwnPart8
import Derived.Test.YtegmecenafkllaaPlanOwnPart7
set_option linter.unusedVariables false
set_option linter.unusedSimpArgs false

/- Plans: a unit left out, a place put in. -/
set_option linter.unusedVariables false
set_option linter.unusedSimpArgs false
namespace Go.Am
open Classical
variable {m : Mem}

theorem insert_upd {u by_ : Nat} {m m' : Mem} {v v' : Value} {i : Int} {q : Nat} (h : X.insert u by_ [v, .int .i64 i, .slice (some ⟨q, 0, none⟩) 1 1] m = some (v', m')) :
    Upd m m' (vb v) ∧ (vb v' = vb v ∨ ∃ k, vb v' = [k] ∧ m.next ≤ k) := by
  have key : ∀ x, aApp none u by_ m v x = some (v', m') → Upd m m' (vb v) ∧ (vb v' = vb v ∨ ∃ k, vb v' = [k] ∧ m.next ≤ k) := fun x hx => by
    obtain ⟨a1, a2, a3⟩ := app_updA (M := m.next) hx (fun k hk => by cases hk) (Nat.le_refl _)
    exact ⟨⟨a1, a2⟩, a3⟩
  unfold X.insert at h
  split at h
  · rename_i e
    simp only [List.cons.injEq] at e
    obtain ⟨rfl, -, -⟩ := e
    split at h
    · exact key _ h
    · cases h
  · rename_i e
    simp only [List.cons.injEq] at e
    obtain ⟨rfl, -, -⟩ := e
    split at h
    · exact key _ h
    · split at h
      · split at h
        · cases h
          exact ⟨(Upd.set (by simp [vb])).new_of, .inr ⟨_, rfl, Nat.le_refl _⟩⟩
        · cases h
      · cases h
  · cases h

theorem NewPls.ins {m0 m : Mem} {l : List PE} {v : Value} {e : PE} {q i : Nat} (h : NewPls m0 m l v) (hq : Bk m q (peV e) 4) (hqv : q ∉ vb v) (hp : PcV m e.pl.pieces e.pv) (ho : ∀ b ∈ vb e.pv, b ∉ vb v ∧ m0.next ≤ b) (hl : l.length < 100000) (hi : i ≤ l.length) :
    ∃ v' m', X.insert 4 48 [v, .int .i64 i, .slice (some ⟨q, 0, none⟩) 1 1] m = some (v', m') ∧ NewPls m0 m' (l.take i ++ e :: l.drop i) v' ∧ Upd m m' (vb v) ∧ (vb v' = vb v ∨ ∃ k, vb v' = [k] ∧ m.next ≤ k) := by
  obtain ⟨v', m', e1, e2, e3⟩ := insert_own (u := 4) (by_ := 48) (i := i) h.pls.own h.pls.ext hq hqv rfl (peV_one e) (by omega) (by omega) (by omega) (by omega) hi
  obtain ⟨u1, u2⟩ := insert_upd e1
  have key : ∀ pc pv, PcV m pc pv → (∀ b ∈ vb pv, b ∉ vb v) → PcV m' pc pv ∧ ∀ b ∈ vb pv, b ∉ vb v' := fun pc pv h1 h2 => by
    have hlt := SlLt.vb_iff.1 h1.2
    refine ⟨h1.upd u1 h2, fun b hb hm => ?_⟩
    rcases u2 with e | ⟨k, e, hk⟩
    · rw [e] at hm; exact h2 b hb hm
    · rw [e] at hm
      simp at hm
      have := hlt b hb
      omega
  refine ⟨v', m', e1, ⟨⟨?_, fun x hx' => ?_, e3⟩, fun x hx' => ?_⟩, u1, u2⟩
  · rw [insRow_flat peV_len hi] at e2
    have : (l.take i ++ e :: l.drop i).length = l.length + 1 := by simp; omega
    rw [this]; exact e2
  · rcases List.mem_append.1 hx' with hx' | hx'
    · exact key _ _ (h.pls.el x (List.mem_of_mem_take hx')).1 (h.pls.el x (List.mem_of_mem_take hx')).2
    · rcases List.mem_cons.1 hx' with rfl | hx'
      · exact key _ _ hp fun b hb => (ho b hb).1
      · exact key _ _ (h.pls.el x (List.mem_of_mem_drop hx')).1 (h.pls.el x (List.mem_of_mem_drop hx')).2
  · rcases List.mem_append.1 hx' with hx' | hx'
    · exact h.new x (List.mem_of_mem_take hx')
    · rcases List.mem_cons.1 hx' with rfl | hx'
      · exact fun b hb => (ho b hb).2
      · exact h.new x (List.mem_of_mem_drop hx')

theorem del_spec {m0 : Mem} {l : List PE} {v : Value} {i : Nat} (h : NewPls m0 m l v) (hl : l.length < 100000) (hi : i < l.length) :
    WC R F.slices_Delete_api_Place_api_Place [v, .int .i64 i, .int .i64 (i + 1 : Nat)] m fun r m' => NewPls m0 m' (l.eraseIdx i) r ∧ Upd m m' (vb v) ∧ vb r = vb v := by
  refine WC.mono (pl_Delete1 peV_len peV_one h.pls.own h.pls.ext hl hi) ?_
  rintro r m' ⟨h1, h2, h3, h4⟩
  refine ⟨⟨⟨h1, fun e he => ?_, h2⟩, fun e he => h.new e (List.mem_of_mem_eraseIdx he)⟩, h4, h3⟩
  have := h.pls.el e (List.mem_of_mem_eraseIdx he)
  exact ⟨this.1.upd h4 this.2, by rw [h3]; exact this.2⟩

theorem map_eraseIdx' {α β : Type} {f : α → β} : ∀ {l : List α} {k : Nat}, (l.eraseIdx k).map f = (l.map f).eraseIdx k
  | [], _ => rfl
  | _ :: _, 0 => rfl
  | a :: l, k + 1 => by simp only [List.eraseIdx_cons_succ, List.map_cons, map_eraseIdx']

def dropU (l : List Pl) (u : Int) : List Pl := l.filter fun x => decide (x.unit ≠ u)
theorem dropU_not {l : List Pl} {u : Int} (h : ∀ k (hk : k < l.length), l[k].unit ≠ u) : dropU l u = l := by
  unfold dropU
  rw [List.filter_eq_self]
  intro x hx
  obtain ⟨k, hk, rfl⟩ := List.getElem_of_mem hx
  exact decide_eq_true (h k hk)
theorem dropU_at {l : List Pl} {u : Int} {k : Nat} (ha : Asc l) (hk : k < l.length) (hu : l[k].unit = u) : dropU l u = l.eraseIdx k := by
  have e0 : l = l.take k ++ l[k] :: l.drop (k + 1) := by rw [← List.drop_eq_getElem_cons hk, List.take_append_drop]
  unfold dropU
  rw [List.eraseIdx_eq_take_drop_succ]
  conv => lhs; rw [e0]
  rw [List.filter_append, List.filter_cons, if_neg (by simp [hu]), List.filter_eq_self.2, List.filter_eq_self.2]
  · intro x hx
    obtain ⟨t, ht, rfl⟩ := List.getElem_of_mem hx
    rw [List.getElem_drop]
    rw [List.length_drop] at ht
    have := ha k (k + 1 + t) (by omega) (by omega)
    exact decide_eq_true (by omega)
  · intro x hx
    obtain ⟨t, ht, rfl⟩ := List.getElem_of_mem hx
    rw [List.getElem_take]
    rw [List.length_take] at ht
    have := ha t k (by omega) hk
    exact decide_eq_true (by omega)
theorem Asc.filter {l : List Pl} (h : Asc l) (f : Pl → Bool) : Asc (l.filter f) := by
  have hp : l.Pairwise fun a b => a.unit < b.unit := List.pairwise_iff_getElem.2 fun i j hi hj hij => h i j hij hj
  intro i j hij hj
  exact List.pairwise_iff_getElem.1 (hp.filter f) i j (by omega) hj hij

/-- Stores into boxes leave a row of new blocks. -/
theorem NewPls.box {m0 m m' : Mem} {l : List PE} {v : Value} {fp : List Nat} (h : NewPls m0 m l v) (hx : Upd m m' fp) (h1 : ∀ x ∈ fp, m0.next ≤ x) (h2 : ∀ x ∈ fp, x ∉ vb v) (h3 : ∀ x ∈ fp, ∀ e ∈ l, x ∉ vb e.pv) : NewPls m0 m' l v :=
  ⟨h.pls.updq hx (fun b hb hf => h2 b hf hb) (fun e he b hb hf => h3 b hf e he hb) h1, h.new⟩
/-- Blocks below it, or behind what it was told at. -/
theorem NewPls.out {m0 m : Mem} {l : List PE} {v : Value} (h : NewPls m0 m l v) {x : Nat} (hx : x < m0.next ∨ m.next ≤ x) : x ∉ vb v ∧ ∀ e ∈ l, x ∉ vb e.pv := by
  refine ⟨fun hb => ?_, fun e he hb => ?_⟩
  · have := h.pls.own.ge x hb
    have := (SlLt.vb_iff.1 h.pls.own.lt) x hb
    omega
  · have := h.new e he x hb
    have := (SlLt.vb_iff.1 (h.pls.el e he).1.2) x hb
    omega

theorem plan_of {p : PlanD} {l : List PE} {m0 m : Mem} {lv : Value} (h : NewPls m0 m l lv) : PlanV m ⟨p.frame, p.cores, l.map PE.pl⟩ (.agg #[.int .i64 p.frame, u32 p.cores, lv]) := ⟨lv, rfl, h.pls.pls⟩
theorem slice_of {m0 m : Mem} {u n : Nat} {cs : List Value} {v : Value} (h : Own m0 m u n cs v) : ∃ a n c, v = .slice a n c := by cases h <;> exact ⟨_, _, _, rfl⟩

set_option maxHeartbeats 4000000 in
theorem Drop_spec {p : PlanD} {v : Value} {u : Int} (hv : PlanV m p v) (hl : PlanL p) (hl2 : p.places.length < 100000) (ha : Asc p.places) :
    WC R F.plan_Drop [v, .int .i64 u] m fun r m' => ∃ (l : List PE) (lv : Value), r = .agg (planV p lv).toArray ∧ l.map PE.pl = dropU p.places u ∧ NewPls m m' l lv := by
  refine WC.of R.plan_Drop rfl ?_
  obtain ⟨pv, rfl, hp⟩ := hv
  simp only [RC.plan_Drop, planV, go_sem, Int.reduceBEq, Int.reduceBNe, Int.reduceNeg, reduceCtorEq, Nat.reduceEqDiff, Nat.reduceAdd, Nat.reduceLeDiff, Nat.reduceMul, Nat.reduceSub, Int.reduceToNat, Int.reduceLT, Int.reduceLE, hp.one]
  have hx1 : Ext m (m.new (.cells [.int .i64 p.frame, u32 p.cores, pv] (some 3))) := Ext.new
  have hb1 : Bk (m.new (.cells [.int .i64 p.frame, u32 p.cores, pv] (some 3))) m.next [.int .i64 p.frame, u32 p.cores, pv] 3 := Bk.new
  generalize m.new (.cells [.int .i64 p.frame, u32 p.cores, pv] (some 3)) = m1 at hx1 hb1 ⊢
  have hbn := hb1.ne
  try simp only [go_sem, Int.reduceBEq, Int.reduceBNe, Int.reduceNeg, reduceCtorEq, Nat.reduceEqDiff, Nat.reduceAdd, Nat.reduceLeDiff, Nat.reduceMul, Nat.reduceSub, Int.reduceToNat, Int.reduceLT, Int.reduceLE, load_w, load_a, store_b, idxS_b, set_blk, new_blk, set_next, new_next, len_s, ldW_c, ldA_c, stB_c, toArr_one, size_one, toList_toArr, size_toArr, List.length_cons, List.length_nil, List.getElem?_cons_zero, List.getElem?_cons_succ, Nat.zero_add, Nat.add_zero, hb1.at_, hbn]
  have hx2 : Ext m1 (m1.new (.cells [.int .i64 0, u32 0#32, .slice none 0 0] (some 3))) := Ext.new
  have hb2 : Bk (m1.new (.cells [.int .i64 0, u32 0#32, .slice none 0 0] (some 3))) m1.next [.int .i64 0, u32 0#32, .slice none 0 0] 3 := Bk.new
  generalize m1.new (.cells [.int .i64 0, u32 0#32, .slice none 0 0] (some 3)) = m2 at hx2 hb2 ⊢
  have hb12 := hb1.keep hx2
  have hp2 := (hp.keep hx1).keep hx2
  try simp only [go_sem, Int.reduceBEq, Int.reduceBNe, Int.reduceNeg, reduceCtorEq, Nat.reduceEqDiff, Nat.reduceAdd, Nat.reduceLeDiff, Nat.reduceMul, Nat.reduceSub, Int.reduceToNat, Int.reduceLT, Int.reduceLE, load_w, load_a, store_b, idxS_b, set_blk, new_blk, set_next, new_next, len_s, ldW_c, ldA_c, stB_c, toArr_one, size_one, toList_toArr, size_toArr, List.length_cons, List.length_nil, List.getElem?_cons_zero, List.getElem?_cons_succ, Nat.zero_add, Nat.add_zero, hb12.at_]
  refine gC.of (clone_spec (p := p) ⟨pv, rfl, hp2⟩ hl) ?_
  rintro _ m3 ⟨l, lv, rfl, hmp, hN⟩
  have hlo := hN.pls.own.sl.one
  obtain ⟨wa, wn, wc, rfl⟩ := slice_of hN.pls.own
  simp only [planV]
  try simp only [go_sem, Int.reduceBEq, Int.reduceBNe, Int.reduceNeg, reduceCtorEq, Nat.reduceEqDiff, Nat.reduceAdd, Nat.reduceLeDiff, Nat.reduceMul, Nat.reduceSub, Int.reduceToNat, Int.reduceLT, Int.reduceLE, load_w, load_a, store_b, idxS_b, set_blk, new_blk, set_next, new_next, len_s, ldW_c, ldA_c, stB_c, toArr_one, size_one, toList_toArr, size_toArr, List.length_cons, List.length_nil, List.getElem?_cons_zero, List.getElem?_cons_succ, Nat.zero_add, Nat.add_zero, hlo]
  have hx4 : Ext m3 (m3.new (.cells [.int .i64 p.frame, u32 p.cores, .slice wa wn wc] (some 3))) := Ext.new
  have hb4 : Bk (m3.new (.cells [.int .i64 p.frame, u32 p.cores, .slice wa wn wc] (some 3))) m3.next [.int .i64 p.frame, u32 p.cores, .slice wa wn wc] 3 := Bk.new
  generalize m3.new (.cells [.int .i64 p.frame, u32 p.cores, .slice wa wn wc] (some 3)) = m4 at hx4 hb4 ⊢
  have hN4 := hN.keep hx4
  have hx34 := hN.pls.ext
  have hr := (hb2.keep hx34).keep hx4
  try simp only [go_sem, Int.reduceBEq, Int.reduceBNe, Int.reduceNeg, reduceCtorEq, Nat.reduceEqDiff, Nat.reduceAdd, Nat.reduceLeDiff, Nat.reduceMul, Nat.reduceSub, Int.reduceToNat, Int.reduceLT, Int.reduceLE, load_w, load_a, store_b, idxS_b, set_blk, new_blk, set_next, new_next, len_s, ldW_c, ldA_c, stB_c, toArr_one, size_one, toList_toArr, size_toArr, List.length_cons, List.length_nil, List.getElem?_cons_zero, List.getElem?_cons_succ, Nat.zero_add, Nat.add_zero, hb4.at_]
  have hlen : l.length = p.places.length := by rw [← hmp, List.length_map]
  have hP := plan_of (p := p) hN4
  rw [hmp] at hP
  refine gC.of (find_spec (u := u) hP hl.len ha) ?_
  rintro _ m5 ⟨k, ⟨hk1, hk2, hk3⟩, rfl, hx5⟩
  replace hk1 : k ≤ p.places.length := hk1
  replace hk2 : ∀ t (h : t < p.places.length), t < k → p.places[t].unit < u := hk2
  replace hk3 : ∀ t (h : t < p.places.length), k ≤ t → u ≤ p.places[t].unit := hk3
  have hN5 := hN4.keep hx5
  have hb5 := hb4.keep hx5
  have hr5 := hr.keep hx5
  have hnb : m.next + 1 ≤ m1.next ∧ m1.next + 1 ≤ m2.next ∧ m2.next ≤ m3.next ∧ m3.next + 1 ≤ m4.next ∧ m4.next ≤ m5.next := ⟨hb1.lt, hb2.lt, hx34.next, hb4.lt, hx5.next⟩
  have s1 := step1 (show k < 1000000 by omega)
  have hout := hN.out (x := m3.next) (.inr (Nat.le_refl _))
  have hout1 := hN.out (x := m1.next) (.inl (by omega))
  have hX := hx1.trans hx2
  try simp only [go_sem, Int.reduceBEq, Int.reduceBNe, Int.reduceNeg, reduceCtorEq, Nat.reduceEqDiff, Nat.reduceAdd, Nat.reduceLeDiff, Nat.reduceMul, Nat.reduceSub, Int.reduceToNat, Int.reduceLT, Int.reduceLE, load_w, load_a, store_b, idxS_b, set_blk, new_blk, set_next, new_next, len_s, ldW_c, ldA_c, stB_c, toArr_one, size_one, toList_toArr, size_toArr, List.length_cons, List.length_nil, List.getElem?_cons_zero, List.getElem?_cons_succ, Nat.zero_add, Nat.add_zero, aExt0, aExt1]
  refine gT.of (fun h1' => ?_) (fun h1' => ?_) <;> (have h1 := h1'; try simp only [decide_eq_true_eq, decide_eq_false_iff_not, beq_iff_eq, bne_iff_ne, beq_eq_false_iff_ne, ne_eq, Bool.not_eq_true', Bool.not_eq_false', bne_eq_false_iff_eq, Int.not_lt, Int.not_le] at h1)
  · obtain ⟨hkl, hku⟩ : isAt p.places u k := by simpa using h1'
    have hd := dropU_at ha hkl hku
    try simp only [go_sem, Int.reduceBEq, Int.reduceBNe, Int.reduceNeg, reduceCtorEq, Nat.reduceEqDiff, Nat.reduceAdd, Nat.reduceLeDiff, Nat.reduceMul, Nat.reduceSub, Int.reduceToNat, Int.reduceLT, Int.reduceLE, load_w, load_a, store_b, idxS_b, set_blk, new_blk, set_next, new_next, len_s, ldW_c, ldA_c, stB_c, toArr_one, size_one, toList_toArr, size_toArr, List.length_cons, List.length_nil, List.getElem?_cons_zero, List.getElem?_cons_succ, Nat.zero_add, Nat.add_zero, h1', hb5.at_, s1]
    refine gC.of (del_spec (i := k) hN5 (by omega) (by omega)) ?_
    rintro rv m6 ⟨hN6, hU6, hvb⟩
    obtain ⟨xa, xn, xc, rfl⟩ := slice_of hN6.pls.own
    have hb6 := hb5.upd hU6 hout.1
    have hr6 := hr5.upd hU6 hout1.1
    have hne : (m3.next = m1.next) = False := eq_false (by omega)
    have hne2 : (m1.next = m3.next) = False := eq_false (by omega)
    have hlo6 := hN6.pls.own.sl.one
    try simp only [go_sem, Int.reduceBEq, Int.reduceBNe, Int.reduceNeg, reduceCtorEq, Nat.reduceEqDiff, Nat.reduceAdd, Nat.reduceLeDiff, Nat.reduceMul, Nat.reduceSub, Int.reduceToNat, Int.reduceLT, Int.reduceLE, load_w, load_a, store_b, idxS_b, set_blk, new_blk, set_next, new_next, len_s, ldW_c, ldA_c, stB_c, toArr_one, size_one, toList_toArr, size_toArr, List.length_cons, List.length_nil, List.getElem?_cons_zero, List.getElem?_cons_succ, Nat.zero_add, Nat.add_zero, hb6.at_, hlo6, hr6.at_, hne, hne2]
    refine ⟨l.eraseIdx k, _, rfl, ?_, ?_⟩
    · rw [hd, ← hmp, map_eraseIdx']
    · refine (hN6.weak hX).box (fp := [m3.next, m1.next]) ((Upd.set (fp := [m3.next, m1.next]) (by simp)).trans (Upd.set (fp := [m3.next, m1.next]) (by simp)) (fun _ h => h) (fun _ h => .inl h)) (by simp; omega) ?_ ?_
      · rw [hvb]; simp; exact ⟨hout.1, hout1.1⟩
      · intro x hx e he
        have he := List.mem_of_mem_eraseIdx he
        simp at hx
        rcases hx with rfl | rfl
        · exact hout.2 e he
        · exact hout1.2 e he
  · have hno : ¬ isAt p.places u k := by simpa using h1'
    have hd : dropU p.places u = p.places := dropU_not fun t ht e => by
      have : t = k := by
        rcases Nat.lt_trichotomy t k with g | g | g
        · have := hk2 t ht g; omega
        · exact g
        · have h1 := hk3 k (by omega) (Nat.le_refl _)
          have := ha k t g ht
          omega
      subst this; exact hno ⟨ht, e⟩
    try simp only [go_sem, Int.reduceBEq, Int.reduceBNe, Int.reduceNeg, reduceCtorEq, Nat.reduceEqDiff, Nat.reduceAdd, Nat.reduceLeDiff, Nat.reduceMul, Nat.reduceSub, Int.reduceToNat, Int.reduceLT, Int.reduceLE, load_w, load_a, store_b, idxS_b, set_blk, new_blk, set_next, new_next, len_s, ldW_c, ldA_c, stB_c, toArr_one, size_one, toList_toArr, size_toArr, List.length_cons, List.length_nil, List.getElem?_cons_zero, List.getElem?_cons_succ, Nat.zero_add, Nat.add_zero, h1', hb5.at_, hr5.at_]
    refine ⟨l, _, rfl, by rw [hd, hmp], ?_⟩
    refine (hN5.weak hX).box (fp := [m1.next]) (Upd.set (by simp)) (by simp; omega) (by simpa using hout1.1) ?_
    intro x hx e he
    simp at hx; subst hx
    exact hout1.2 e he
end Go.Am


/- Plans: a place put in. -/
set_option linter.unusedVariables false
set_option linter.unusedSimpArgs false
namespace Go.Am
open Classical
variable {m : Mem}

set_option maxHeartbeats 4000000 in
theorem Put_spec {p : PlanD} {x : Pl} {v xv : Value} (hv : PlanV m p v) (hl : PlanL p) (hl2 : p.places.length < 100000) (ha : Asc p.places) (hxv : PlV m x xv) (hxl : x.pieces.length < 1000000) :
    WC R F.plan_Put [v, xv] m fun r m' => ∃ (l : List PE) (lv : Value) (k : Nat), r = .agg (planV p lv).toArray ∧ atU (dropU p.places x.unit) x.unit k ∧ l.map PE.pl = (dropU p.places x.unit).take k ++ x :: (dropU p.places x.unit).drop k ∧ NewPls m m' l lv := by
  refine WC.of R.plan_Put rfl ?_
  obtain ⟨pv, rfl, hp⟩ := hv
  obtain ⟨qv, rfl, hq⟩ := hxv
  simp only [RC.plan_Put, planV, plV, go_sem, Int.reduceBEq, Int.reduceBNe, Int.reduceNeg, reduceCtorEq, Nat.reduceEqDiff, Nat.reduceAdd, Nat.reduceLeDiff, Nat.reduceMul, Nat.reduceSub, Int.reduceToNat, Int.reduceLT, Int.reduceLE, hp.one, hq.one]
  have hx1 : Ext m (m.new (.cells [.int .i64 p.frame, u32 p.cores, pv] (some 3))) := Ext.new
  have hb1 : Bk (m.new (.cells [.int .i64 p.frame, u32 p.cores, pv] (some 3))) m.next [.int .i64 p.frame, u32 p.cores, pv] 3 := Bk.new
  generalize m.new (.cells [.int .i64 p.frame, u32 p.cores, pv] (some 3)) = m1 at hx1 hb1 ⊢
  have hbn := hb1.ne
  have hx2 : Ext m1 (m1.new (.cells [.int .i64 x.unit, .int .i64 x.share, .int .i64 x.core, qv] (some 4))) := Ext.new
  have hb2 : Bk (m1.new (.cells [.int .i64 x.unit, .int .i64 x.share, .int .i64 x.core, qv] (some 4))) m1.next [.int .i64 x.unit, .int .i64 x.share, .int .i64 x.core, qv] 4 := Bk.new
  generalize m1.new (.cells [.int .i64 x.unit, .int .i64 x.share, .int .i64 x.core, qv] (some 4)) = m2 at hx2 hb2 ⊢
  have hb12 := hb1.keep hx2
  have hbn1 := hb12.ne
  have hbn2 := hb2.ne
  have hx3 : Ext m2 (m2.new (.cells [.int .i64 0, u32 0#32, .slice none 0 0] (some 3))) := Ext.new
  have hb3 : Bk (m2.new (.cells [.int .i64 0, u32 0#32, .slice none 0 0] (some 3))) m2.next [.int .i64 0, u32 0#32, .slice none 0 0] 3 := Bk.new
  generalize m2.new (.cells [.int .i64 0, u32 0#32, .slice none 0 0] (some 3)) = m3 at hx3 hb3 ⊢
  have hb13 := hb12.keep hx3
  have hb23 := hb2.keep hx3
  have hp3 := ((hp.keep hx1).keep hx2).keep hx3
  have hq3 := ((hq.keep hx1).keep hx2).keep hx3
  try simp only [go_sem, Int.reduceBEq, Int.reduceBNe, Int.reduceNeg, reduceCtorEq, Nat.reduceEqDiff, Nat.reduceAdd, Nat.reduceLeDiff, Nat.reduceMul, Nat.reduceSub, Int.reduceToNat, Int.reduceLT, Int.reduceLE, load_w, load_a, store_b, idxS_b, set_blk, new_blk, set_next, new_next, len_s, ldW_c, ldA_c, stB_c, toArr_one, size_one, toList_toArr, size_toArr, List.length_cons, List.length_nil, List.getElem?_cons_zero, List.getElem?_cons_succ, Nat.zero_add, Nat.add_zero, hb13.at_, hb23.at_]
  refine gC.of (Drop_spec (p := p) (u := x.unit) ⟨pv, rfl, hp3⟩ hl hl2 ha) ?_
  rintro _ m4 ⟨l, lv, rfl, hmp, hN⟩
  have hlo := hN.pls.own.sl.one
  obtain ⟨wa, wn, wc, rfl⟩ := slice_of hN.pls.own
  have hx34 := hN.pls.ext
  have hb24 := hb23.keep hx34
  have hb34 := hb3.keep hx34
  have hn3 := hb24.ne
  have hn4 := hb34.ne
  simp only [planV]
  try simp only [go_sem, Int.reduceBEq, Int.reduceBNe, Int.reduceNeg, reduceCtorEq, Nat.reduceEqDiff, Nat.reduceAdd, Nat.reduceLeDiff, Nat.reduceMul, Nat.reduceSub, Int.reduceToNat, Int.reduceLT, Int.reduceLE, load_w, load_a, store_b, idxS_b, set_blk, new_blk, set_next, new_next, len_s, ldW_c, ldA_c, stB_c, toArr_one, size_one, toList_toArr, size_toArr, List.length_cons, List.length_nil, List.getElem?_cons_zero, List.getElem?_cons_succ, Nat.zero_add, Nat.add_zero, hlo, hb24.at_, hn3, hn4]
  have hx5 : Ext m4 (m4.new (.cells [.int .i64 p.frame, u32 p.cores, .slice wa wn wc] (some 3))) := Ext.new
  have hb5 : Bk (m4.new (.cells [.int .i64 p.frame, u32 p.cores, .slice wa wn wc] (some 3))) m4.next [.int .i64 p.frame, u32 p.cores, .slice wa wn wc] 3 := Bk.new
  generalize m4.new (.cells [.int .i64 p.frame, u32 p.cores, .slice wa wn wc] (some 3)) = m5 at hx5 hb5 ⊢
  have hN5 := hN.keep hx5
  have hb25 := hb24.keep hx5
  have hb35 := hb34.keep hx5
  try simp only [go_sem, Int.reduceBEq, Int.reduceBNe, Int.reduceNeg, reduceCtorEq, Nat.reduceEqDiff, Nat.reduceAdd, Nat.reduceLeDiff, Nat.reduceMul, Nat.reduceSub, Int.reduceToNat, Int.reduceLT, Int.reduceLE, load_w, load_a, store_b, idxS_b, set_blk, new_blk, set_next, new_next, len_s, ldW_c, ldA_c, stB_c, toArr_one, size_one, toList_toArr, size_toArr, List.length_cons, List.length_nil, List.getElem?_cons_zero, List.getElem?_cons_succ, Nat.zero_add, Nat.add_zero, hb5.at_, hb25.at_]
  have hP := plan_of (p := p) hN5
  rw [hmp] at hP
  have hdl : (dropU p.places x.unit).length ≤ p.places.length := List.length_filter_le ..
  have hll : l.length = (dropU p.places x.unit).length := by rw [← hmp, List.length_map]
  refine gC.of (find_spec (u := x.unit) hP (by show (dropU p.places x.unit).length < 1000000; omega) (ha.filter _)) ?_
  rintro _ m6 ⟨k, hat, rfl, hx6⟩
  replace hat : atU (dropU p.places x.unit) x.unit k := hat
  have hkl : k ≤ l.length := by rw [hll]; exact hat.1
  have hN6 := hN5.keep hx6
  have hb26 := hb25.keep hx6
  have hb36 := hb35.keep hx6
  have hb56 := hb5.keep hx6
  have hq6 := ((hq3.keep hx34).keep hx5).keep hx6
  try simp only [go_sem, Int.reduceBEq, Int.reduceBNe, Int.reduceNeg, reduceCtorEq, Nat.reduceEqDiff, Nat.reduceAdd, Nat.reduceLeDiff, Nat.reduceMul, Nat.reduceSub, Int.reduceToNat, Int.reduceLT, Int.reduceLE, load_w, load_a, store_b, idxS_b, set_blk, new_blk, set_next, new_next, len_s, ldW_c, ldA_c, stB_c, toArr_one, size_one, toList_toArr, size_toArr, List.length_cons, List.length_nil, List.getElem?_cons_zero, List.getElem?_cons_succ, Nat.zero_add, Nat.add_zero, aExt0, aExt1, hb26.at_]
  refine gC.of (Clone_spec hq6 hxl) ?_
  rintro w m7 ⟨hw, hx7⟩
  have hw1 := hw.sl.one
  have hge := hw.ge
  have hwp : PcV m7 x.pieces w := ⟨hw.sl, hw.lt⟩
  obtain ⟨ya, yn, yc, rfl⟩ := slice_of hw
  have hb27 := hb26.keep hx7
  have hb37 := hb36.keep hx7
  have hb57 := hb56.keep hx7
  have hnb : m.next + 1 ≤ m1.next ∧ m1.next + 1 ≤ m2.next ∧ m2.next + 1 ≤ m3.next ∧ m3.next ≤ m4.next ∧ m4.next + 1 ≤ m5.next ∧ m5.next ≤ m6.next ∧ m6.next ≤ m7.next := ⟨hb1.lt, hb2.lt, hb3.lt, hx34.next, hb5.lt, hx6.next, hx7.next⟩
  have ne1 : (m1.next = m4.next) = False := eq_false (by omega)
  have ne2 : (m4.next = m1.next) = False := eq_false (by omega)
  have ne3 : (m2.next = m4.next) = False := eq_false (by omega)
  have ne4 : (m4.next = m2.next) = False := eq_false (by omega)
  try simp only [go_sem, Int.reduceBEq, Int.reduceBNe, Int.reduceNeg, reduceCtorEq, Nat.reduceEqDiff, Nat.reduceAdd, Nat.reduceLeDiff, Nat.reduceMul, Nat.reduceSub, Int.reduceToNat, Int.reduceLT, Int.reduceLE, load_w, load_a, store_b, idxS_b, set_blk, new_blk, set_next, new_next, len_s, ldW_c, ldA_c, stB_c, toArr_one, size_one, toList_toArr, size_toArr, List.length_cons, List.length_nil, List.getElem?_cons_zero, List.getElem?_cons_succ, Nat.zero_add, Nat.add_zero, hb27.at_, hw1, hb57.at_, ne1, ne2]
  have hN7 := (hN6.keep hx7).weak ((hx1.trans hx2).trans hx3)
  have ho1 := hN.out (x := m1.next) (.inl (by omega))
  have ho2 := hN.out (x := m2.next) (.inl (by omega))
  have ho4 := hN.out (x := m4.next) (.inr (Nat.le_refl _))
  have ho7 := hN.out (x := m7.next) (.inr (by omega))
  have hU8 : Upd m7 (m7.set m1.next (some (.cells [.int .i64 x.unit, .int .i64 x.share, .int .i64 x.core, .slice ya yn yc] (some 4)))) [m1.next] := Upd.set (by simp)
  have hN8 := hN7.box hU8 (by simp; omega) (by simpa using ho1.1) (fun b hb e he => by simp at hb; subst hb; exact ho1.2 e he)
  have hwp8 := hwp.upd hU8 (fun b hb => by have := hge b hb; simp; omega)
  have hb58 := hb57.upd hU8 (by simp; omega)
  have hb38 := hb37.upd hU8 (by simp; omega)
  have hn8 : (m7.set m1.next (some (.cells [.int .i64 x.unit, .int .i64 x.share, .int .i64 x.core, .slice ya yn yc] (some 4)))).next = m7.next := rfl
  generalize m7.set m1.next (some (.cells [.int .i64 x.unit, .int .i64 x.share, .int .i64 x.core, .slice ya yn yc] (some 4))) = m8 at hU8 hN8 hwp8 hb58 hb38 hn8 ⊢
  rw [← hn8]
  have hx9 : Ext m8 (m8.new (.cells [.int .i64 x.unit, .int .i64 x.share, .int .i64 x.core, .slice ya yn yc] (some 4))) := Ext.new
  have hb9 : Bk (m8.new (.cells [.int .i64 x.unit, .int .i64 x.share, .int .i64 x.core, .slice ya yn yc] (some 4))) m8.next [.int .i64 x.unit, .int .i64 x.share, .int .i64 x.core, .slice ya yn yc] 4 := Bk.new
  generalize m8.new (.cells [.int .i64 x.unit, .int .i64 x.share, .int .i64 x.core, .slice ya yn yc] (some 4)) = m9 at hx9 hb9 ⊢
  have hN9 := hN8.keep hx9
  have hlt : ∀ b ∈ vb (Value.slice wa wn wc), b < m4.next := SlLt.vb_iff.1 hN.pls.own.lt
  obtain ⟨v', m10, q1, q2, q3, q4⟩ := hN9.ins (e := ⟨x, .slice ya yn yc, rfl⟩) (q := m8.next) (i := k) hb9 (by rw [hn8]; exact ho7.1) (hwp8.keep hx9)
    (fun b hb => ⟨fun hm => by have := hge b hb; have := hlt b hm; omega, by have := hge b hb; omega⟩) (by omega) hkl
  refine gC.of (WC.ext (Q := fun v'' m'' => v'' = v' ∧ m'' = m10) R.slices_Insert_api_Place_api_Place (v := v') (m' := m10) q1 ⟨rfl, rfl⟩) ?_
  rintro _ _ ⟨rfl, rfl⟩
  have hb510 := (hb58.keep hx9).upd q3 ho4.1
  have hb310 := (hb38.keep hx9).upd q3 ho2.1
  have hlo10 := q2.pls.own.sl.one
  obtain ⟨za, zn, zc, rfl⟩ := slice_of q2.pls.own
  try simp only [go_sem, Int.reduceBEq, Int.reduceBNe, Int.reduceNeg, reduceCtorEq, Nat.reduceEqDiff, Nat.reduceAdd, Nat.reduceLeDiff, Nat.reduceMul, Nat.reduceSub, Int.reduceToNat, Int.reduceLT, Int.reduceLE, load_w, load_a, store_b, idxS_b, set_blk, new_blk, set_next, new_next, len_s, ldW_c, ldA_c, stB_c, toArr_one, size_one, toList_toArr, size_toArr, List.length_cons, List.length_nil, List.getElem?_cons_zero, List.getElem?_cons_succ, Nat.zero_add, Nat.add_zero, hb510.at_, hlo10, hb310.at_, ne3, ne4]
  refine ⟨l.take k ++ ⟨x, .slice ya yn yc, rfl⟩ :: l.drop k, _, k, rfl, hat, ?_, ?_⟩
  rotate_left
  · have hn9 := hb9.lt
    have hz : ∀ b ∈ vb (Value.slice za zn zc), b ∈ vb (Value.slice wa wn wc) ∨ m9.next ≤ b := by
      intro b hb
      rcases q4 with e | ⟨k, e, hk⟩
      · rw [e] at hb; exact .inl hb
      · rw [e] at hb; simp at hb; subst hb; exact .inr hk
    refine q2.box (fp := [m4.next, m2.next]) ((Upd.set (fp := [m4.next, m2.next]) (by simp)).trans (Upd.set (fp := [m4.next, m2.next]) (by simp)) (fun _ h => h) (fun _ h => .inl h)) (by simp; omega) ?_ ?_
    · intro b hb hm
      simp at hb
      rcases hz b hm with h | h
      · rcases hb with rfl | rfl
        · exact ho4.1 h
        · exact ho2.1 h
      · omega
    · intro b hb e he hm
      simp at hb
      have hmem : e ∈ l ∨ e = ⟨x, .slice ya yn yc, rfl⟩ := by
        rcases List.mem_append.1 he with he | he
        · exact .inl (List.mem_of_mem_take he)
        · rcases List.mem_cons.1 he with he | he
          · exact .inr he
          · exact .inl (List.mem_of_mem_drop he)
      rcases hmem with h | rfl
      · rcases hb with rfl | rfl
        · exact ho4.2 e h hm
        · exact ho2.2 e h hm
      · have := hge b hm
        omega
  · rw [List.map_append, List.map_cons, List.map_take, List.map_drop, hmp]
end Go.Am


/- Plans: the reference's Drop and Put, of places as they lie. -/
set_option linter.unusedVariables false
set_option linter.unusedSimpArgs false
namespace Go.Am
open Classical
variable {m : Mem}

/-- A row of places as it lies. -/
structure RowE (m : Mem) (l : List PE) (v : Value) : Prop where
  sl : Sl m 4 l.length (l.flatMap peV) v
  lt : SlLt m v
theorem RowE.keep {m m' : Mem} {l : List PE} {v : Value} (h : RowE m l v) (hx : Ext m m') : RowE m' l v := ⟨h.sl.keep h.lt hx, h.lt.keep hx⟩
theorem RowE.upd {m m' : Mem} {l : List PE} {v : Value} {fp : List Nat} (h : RowE m l v) (hx : Upd m m' fp) (ho : ∀ b ∈ vb v, b ∉ fp) : RowE m' l v := ⟨h.sl.upd h.lt (SlOff.vb_iff.2 ho) hx, h.lt.upd hx⟩
theorem RowE.slice {m : Mem} {l : List PE} {v : Value} (h : RowE m l v) : ∃ a n c, v = .slice a n c := by cases h.sl <;> exact ⟨_, _, _, rfl⟩
theorem Own.rowE {m0 m : Mem} {l : List PE} {v : Value} (h : Own m0 m 4 l.length (l.flatMap peV) v) : RowE m l v := ⟨h.sl, h.lt⟩
/-- The places behind a row as it lies. -/
theorem RowE.pls {m : Mem} {l : List PE} {v : Value} (h : RowE m l v) (hp : ∀ e ∈ l, PcV m e.pl.pieces e.pv) : PlsV m (l.map PE.pl) v := by
  refine ⟨l.flatMap peV, by rw [List.length_map]; exact h.sl, h.lt, fun i hi => ?_⟩
  have hi' : i < l.length := by simpa using hi
  refine ⟨l[i].pv, ?_, ?_⟩
  · rw [flat_drop peV_len hi']; simp [peV]
  · have := hp _ (List.getElem_mem hi')
    simpa using this
theorem rowE_of {m : Mem} {l : List Pl} {v : Value} (h : PlsV m l v) : ∃ le : List PE, le.map PE.pl = l ∧ RowE m le v ∧ ∀ e ∈ le, PcV m e.pl.pieces e.pv := by
  obtain ⟨cs, h1, h2, h3⟩ := h
  obtain ⟨le, hle, hP⟩ := list_choice (P := fun i (e : PE) => ∃ h : i < l.length, e.pl = l[i] ∧ (cs.drop (i * 4)).take 4 = peV e ∧ PcV m e.pl.pieces e.pv) (n := l.length) (fun i hi => by
    obtain ⟨pv, a, b⟩ := h3 i hi
    exact ⟨⟨l[i], pv, b.one⟩, hi, rfl, a, b⟩)
  have hm : le.map PE.pl = l := by
    apply List.ext_getElem
    · rw [List.length_map, hle]
    · intro i h1 h2
      rw [List.getElem_map]
      obtain ⟨_, e, _⟩ := hP i (by simpa using h1)
      exact e
  refine ⟨le, hm, ⟨?_, h2⟩, fun e he => ?_⟩
  · have hc : cs = le.flatMap peV := by
      have hcl := h1.length
      have hfl : (le.flatMap peV).length = l.length * 4 := by rw [flat_len peV_len, hle]
      apply List.ext_getElem (by rw [hcl, hfl])
      intro i hi hi2
      have hq : i / 4 < le.length := by rw [hle]; omega
      obtain ⟨_, _, e, _⟩ := hP (i / 4) hq
      have e2 := flat_drop peV_len hq
      rw [← e2] at e
      have g1 : ((cs.drop (i / 4 * 4)).take 4)[i % 4]? = cs[i]? := by
        rw [List.getElem?_take_of_lt (by omega), List.getElem?_drop, show i / 4 * 4 + i % 4 = i by omega]
      have g2 : (((le.flatMap peV).drop (i / 4 * 4)).take 4)[i % 4]? = (le.flatMap peV)[i]? := by
        rw [List.getElem?_take_of_lt (by omega), List.getElem?_drop, show i / 4 * 4 + i % 4 = i by omega]
      rw [e, g2] at g1
      rw [List.getElem?_eq_getElem hi, List.getElem?_eq_getElem hi2] at g1
      exact (Option.some.inj g1).symm
    rw [hle, ← hc]; exact h1
  · obtain ⟨i, hi, rfl⟩ := List.getElem_of_mem he
    obtain ⟨_, _, _, b⟩ := hP i hi
    exact b

def dropE (l : List PE) (u : Int) : List PE := l.filter fun e => decide (e.pl.unit ≠ u)
theorem dropE_succ {l : List PE} {u : Int} {i : Nat} (hi : i < l.length) : dropE (l.take (i + 1)) u = dropE (l.take i) u ++ (if l[i].pl.unit ≠ u then [l[i]] else []) := by
  unfold dropE
  rw [List.take_succ_eq_append_getElem hi, List.filter_append, List.filter_cons]
  by_cases h : l[i].pl.unit = u <;> simp [h]
theorem dropE_len {l : List PE} {u : Int} {i : Nat} : (dropE (l.take i) u).length ≤ i := by
  unfold dropE
  exact Nat.le_trans (List.length_filter_le ..) (by rw [List.length_take]; omega)
theorem dropE_map {l : List PE} {u : Int} : (dropE l u).map PE.pl = dropU (l.map PE.pl) u := by
  unfold dropE dropU
  rw [List.filter_map]; rfl

set_option maxHeartbeats 4000000 in
theorem refDrop_spec {l : List PE} {f : Int} {c : BitVec 32} {pv : Value} {u : Int} (hs : RowE m l pv) (hl : l.length < 1000000) :
    WC R F.ref16_Drop [.agg #[.int .i64 f, u32 c, pv], .int .i64 u] m fun r m' => ∃ lv, r = .agg #[.int .i64 f, u32 c, lv] ∧ Own m m' 4 (dropE l u).length ((dropE l u).flatMap peV) lv ∧ Ext m m' := by
  refine WC.of R.ref16_Drop rfl ?_
  simp only [RC.ref16_Drop, go_sem, Int.reduceBEq, Int.reduceBNe, Int.reduceNeg, reduceCtorEq, Nat.reduceEqDiff, Nat.reduceAdd, Nat.reduceLeDiff, Nat.reduceMul, Nat.reduceSub, Int.reduceToNat, Int.reduceLT, Int.reduceLE, hs.sl.one]
  have hx1 : Ext m (m.new (.cells [.int .i64 f, u32 c, pv] (some 3))) := Ext.new
  have hb1 : Bk (m.new (.cells [.int .i64 f, u32 c, pv] (some 3))) m.next [.int .i64 f, u32 c, pv] 3 := Bk.new
  generalize m.new (.cells [.int .i64 f, u32 c, pv] (some 3)) = m1 at hx1 hb1 ⊢
  have hbn := hb1.ne
  have hx2 : Ext m1 (m1.new (.cells [.int .i64 0, u32 0#32, .slice none 0 0] (some 3))) := Ext.new
  have hb2 : Bk (m1.new (.cells [.int .i64 0, u32 0#32, .slice none 0 0] (some 3))) m1.next [.int .i64 0, u32 0#32, .slice none 0 0] 3 := Bk.new
  generalize m1.new (.cells [.int .i64 0, u32 0#32, .slice none 0 0] (some 3)) = m2 at hx2 hb2 ⊢
  have hb12 := hb1.keep hx2
  have hs2 := (hs.keep hx1).keep hx2
  have hx3 : Ext m2 (m2.new (.cells [] (some 4))) := Ext.new
  have ho3 : Own m2 (m2.new (.cells [] (some 4))) 4 0 [] (.slice (some ⟨m2.next, 0, none⟩) 0 0) := .at (all := []) (Nat.le_refl _) (by simp [Mem.new]) (Nat.le_refl _) (by simp [Mem.new]) rfl rfl rfl
  have hle : m.next + 1 ≤ m1.next ∧ m1.next + 1 ≤ m2.next := ⟨hb1.lt, hb2.lt⟩
  generalize m2.new (.cells [] (some 4)) = m3 at hx3 ho3 ⊢
  refine WL.of (fun n e m' => ∃ (i : Nat) (w : Value), i ≤ l.length ∧ n = l.length - i ∧ e = [(1, .int .i64 u), (2, pt m.next), (4, pt m1.next), (5, w), (6, .int .i64 i)] ∧ Own m2 m' 4 (dropE (l.take i) u).length ((dropE (l.take i) u).flatMap peV) w ∧ Ext m2 m') l.length
    ⟨0, _, by omega, by omega, by simp only [go_sem, Int.reduceBEq, Int.reduceBNe, Int.reduceNeg, reduceCtorEq, Nat.reduceEqDiff, Nat.reduceAdd, Nat.reduceLeDiff, Nat.reduceMul, Nat.reduceSub, Int.reduceToNat, Int.reduceLT, Int.reduceLE] <;> rfl, ho3, hx3⟩ ?_
  rintro _ _ m4 ⟨i, w, hi, rfl, rfl, ho, hx4⟩
  have hs4 := hs2.keep hx4
  have hb4 := hb12.keep hx4
  have hr4 := hb2.keep hx4
  simp only [RB.ref16_Drop_1, pt, go_sem, Int.reduceBEq, Int.reduceBNe, Int.reduceNeg, reduceCtorEq, Nat.reduceEqDiff, Nat.reduceAdd, Nat.reduceLeDiff, Nat.reduceMul, Nat.reduceSub, Int.reduceToNat, Int.reduceLT, Int.reduceLE, load_w, load_a, store_b, idxS_b, set_blk, new_blk, set_next, new_next, len_s, ldW_c, ldA_c, stB_c, toArr_one, size_one, toList_toArr, size_toArr, List.length_cons, List.length_nil, List.getElem?_cons_zero, List.getElem?_cons_succ, Nat.zero_add, Nat.add_zero, hb4.at_, hs4.sl.len]
  refine gT.of (fun h1' => ?_) (fun h1' => ?_) <;> (have h1 := h1'; try simp only [decide_eq_true_eq, decide_eq_false_iff_not, beq_iff_eq, bne_iff_ne, beq_eq_false_iff_ne, ne_eq, Bool.not_eq_true', Bool.not_eq_false', bne_eq_false_iff_eq, Int.not_lt, Int.not_le] at h1)
  · have hil : i < l.length := by omega
    obtain ⟨b, o, a1, a2, a3, a4⟩ := hs4.sl.elem peV_len (k := .i64) (i := i) hil
    have a30 := a3 0 (by omega)
    have hd := dropE_succ (u := u) hil
    have hdl := dropE_len (l := l) (u := u) (i := i)
    have s1 := step1 (show i < 1000000 by omega)
    have q1 := l[i].one
    generalize l[i] = x at *
    simp only [peV, plV, Nat.add_zero, List.getElem?_cons_zero] at a2 a30
    try simp only [go_sem, Int.reduceBEq, Int.reduceBNe, Int.reduceNeg, reduceCtorEq, Nat.reduceEqDiff, Nat.reduceAdd, Nat.reduceLeDiff, Nat.reduceMul, Nat.reduceSub, Int.reduceToNat, Int.reduceLT, Int.reduceLE, load_w, load_a, store_b, idxS_b, set_blk, new_blk, set_next, new_next, len_s, ldW_c, ldA_c, stB_c, toArr_one, size_one, toList_toArr, size_toArr, List.length_cons, List.length_nil, List.getElem?_cons_zero, List.getElem?_cons_succ, Nat.zero_add, Nat.add_zero, h1', a1, a30, hb4.at_]
    refine gT.of (fun h2' => ?_) (fun h2' => ?_) <;> (have h2 := h2'; try simp only [decide_eq_true_eq, decide_eq_false_iff_not, beq_iff_eq, bne_iff_ne, beq_eq_false_iff_ne, ne_eq, Bool.not_eq_true', Bool.not_eq_false', bne_eq_false_iff_eq, Int.not_lt, Int.not_le] at h2)
    · try simp only [go_sem, Int.reduceBEq, Int.reduceBNe, Int.reduceNeg, reduceCtorEq, Nat.reduceEqDiff, Nat.reduceAdd, Nat.reduceLeDiff, Nat.reduceMul, Nat.reduceSub, Int.reduceToNat, Int.reduceLT, Int.reduceLE, load_w, load_a, store_b, idxS_b, set_blk, new_blk, set_next, new_next, len_s, ldW_c, ldA_c, stB_c, toArr_one, size_one, toList_toArr, size_toArr, List.length_cons, List.length_nil, List.getElem?_cons_zero, List.getElem?_cons_succ, Nat.zero_add, Nat.add_zero, h2', a1, a2, hb4.at_, q1]
      obtain ⟨v', m6, e1, e2, e3⟩ := ho.app (by_ := 48) (es := peV x) hx4 (by omega) rfl (peV_one x) (by omega) (by omega)
      simp only [peV, plV] at e1
      rw [e1, Got.some]
      try simp only [go_sem, Int.reduceBEq, Int.reduceBNe, Int.reduceNeg, reduceCtorEq, Nat.reduceEqDiff, Nat.reduceAdd, Nat.reduceLeDiff, Nat.reduceMul, Nat.reduceSub, Int.reduceToNat, Int.reduceLT, Int.reduceLE, load_w, load_a, store_b, idxS_b, set_blk, new_blk, set_next, new_next, len_s, ldW_c, ldA_c, stB_c, toArr_one, size_one, toList_toArr, size_toArr, List.length_cons, List.length_nil, List.getElem?_cons_zero, List.getElem?_cons_succ, Nat.zero_add, Nat.add_zero, s1]
      rw [if_pos h2] at hd
      refine ⟨l.length - (i + 1), by omega, i + 1, v', by omega, rfl, rfl, ?_, e3⟩
      rw [hd, List.length_append, List.flatMap_append]; simpa [peV, plV] using e2
    · try simp only [go_sem, Int.reduceBEq, Int.reduceBNe, Int.reduceNeg, reduceCtorEq, Nat.reduceEqDiff, Nat.reduceAdd, Nat.reduceLeDiff, Nat.reduceMul, Nat.reduceSub, Int.reduceToNat, Int.reduceLT, Int.reduceLE, load_w, load_a, store_b, idxS_b, set_blk, new_blk, set_next, new_next, len_s, ldW_c, ldA_c, stB_c, toArr_one, size_one, toList_toArr, size_toArr, List.length_cons, List.length_nil, List.getElem?_cons_zero, List.getElem?_cons_succ, Nat.zero_add, Nat.add_zero, h2', s1]
      rw [if_neg (by simpa using h2), List.append_nil] at hd
      refine ⟨l.length - (i + 1), by omega, i + 1, w, by omega, rfl, rfl, ?_, hx4⟩
      rw [hd]; exact ho
  · have hil : i = l.length := by omega
    subst hil
    rw [List.take_length] at ho
    have hlo := ho.sl.one
    obtain ⟨wa, wn, wc, rfl⟩ := slice_of ho
    have hge := ho.ge
    have hne : (m.next = m1.next) = False := hbn
    have hne2 : (m1.next = m.next) = False := eq_false (by omega)
    try simp only [go_sem, Int.reduceBEq, Int.reduceBNe, Int.reduceNeg, reduceCtorEq, Nat.reduceEqDiff, Nat.reduceAdd, Nat.reduceLeDiff, Nat.reduceMul, Nat.reduceSub, Int.reduceToNat, Int.reduceLT, Int.reduceLE, load_w, load_a, store_b, idxS_b, set_blk, new_blk, set_next, new_next, len_s, ldW_c, ldA_c, stB_c, toArr_one, size_one, toList_toArr, size_toArr, List.length_cons, List.length_nil, List.getElem?_cons_zero, List.getElem?_cons_succ, Nat.zero_add, Nat.add_zero, h1', hb4.at_, hlo, hr4.at_, hne, hne2]
    have hX := (hx1.trans hx2)
    have key : ∀ {m'}, Upd m4 m' [m.next, m1.next] → Own m m' 4 (dropE l u).length ((dropE l u).flatMap peV) (.slice wa wn wc) ∧ Ext m m' := fun hU =>
      ⟨(ho.weak hX).updq hU (fun b hb => by have := hge b hb; simp; omega), hU.ext_of (hX.trans hx4) (by simp; omega)⟩
    refine ⟨_, rfl, key ?_⟩
    exact ((Upd.set (fp := [m.next, m1.next]) (by simp)).trans (Upd.set (fp := [m.next, m1.next]) (by simp)) (fun _ h => h) (fun _ h => .inl h))

theorem peV_flat {l : List PE} : oneCells (l.flatMap peV) = true := by
  unfold oneCells
  rw [List.all_eq_true]
  intro x hx
  obtain ⟨y, _, hy⟩ := List.mem_flatMap.1 hx
  have := peV_one y
  unfold oneCells at this
  exact List.all_eq_true.1 this x hy

theorem refPut_loop {l : List PE} {x : PE} {f : Int} {c : BitVec 32} {lv : Value} {bp bx br : Nat} (hs : RowE m l lv) (hl : l.length < 1000000) (hp : Bk m bp [.int .i64 f, u32 c, lv] 3) (hx : Bk m bx (peV x) 4) :
    WL R [2, 3, 4, 5] RB.ref16_Put_1 [(2, pt bp), (3, pt bx), (4, pt br), (5, .int .i64 0)] m fun y e m' => m' = m ∧ y = .exit 0 ∧ ∃ (k : Nat) (rest : Env), k ≤ l.length ∧ (∀ t (h : t < l.length), t < k → l[t].pl.unit < x.pl.unit) ∧ (∀ h : k < l.length, ¬ l[k].pl.unit < x.pl.unit) ∧ e = (2, pt bp) :: (3, pt bx) :: (4, pt br) :: (5, .int .i64 k) :: rest := by
  refine WL.of (fun n e m' => ∃ k : Nat, k ≤ l.length ∧ n = l.length - k ∧ m' = m ∧ e = [(2, pt bp), (3, pt bx), (4, pt br), (5, .int .i64 k)] ∧ ∀ t (h : t < l.length), t < k → l[t].pl.unit < x.pl.unit) l.length
    ⟨0, by omega, by omega, rfl, by simp only [go_sem, Int.reduceBEq, Int.reduceBNe, Int.reduceNeg, reduceCtorEq, Nat.reduceEqDiff, Nat.reduceAdd, Nat.reduceLeDiff, Nat.reduceMul, Nat.reduceSub, Int.reduceToNat, Int.reduceLT, Int.reduceLE] <;> rfl, fun _ _ h => by omega⟩ ?_
  rintro _ _ _ ⟨k, hk, rfl, hm, rfl, hall⟩
  replace hm := hm.symm
  subst hm
  simp only [RB.ref16_Put_1, pt, go_sem, Int.reduceBEq, Int.reduceBNe, Int.reduceNeg, reduceCtorEq, Nat.reduceEqDiff, Nat.reduceAdd, Nat.reduceLeDiff, Nat.reduceMul, Nat.reduceSub, Int.reduceToNat, Int.reduceLT, Int.reduceLE, load_w, load_a, store_b, idxS_b, set_blk, new_blk, set_next, new_next, len_s, ldW_c, ldA_c, stB_c, toArr_one, size_one, toList_toArr, size_toArr, List.length_cons, List.length_nil, List.getElem?_cons_zero, List.getElem?_cons_succ, Nat.zero_add, Nat.add_zero, hp.at_, hs.sl.len]
  by_cases g1 : k < l.length
  · have e1 : decide ((k : Int) < (l.length : Int)) = true := decide_eq_true (by omega)
    obtain ⟨b, o, a1, a2, a3, a4⟩ := hs.sl.elem peV_len (k := .i64) (i := k) g1
    have a30 := a3 0 (by omega)
    have s1 := step1 (show k < 1000000 by omega)
    simp only [peV, plV, Nat.add_zero, List.getElem?_cons_zero] at a30
    have hx0 : aLoad false 1 m (.pointer (some ⟨bx, 0, none⟩)) = some (.int .i64 x.pl.unit) := by
      simp only [go_sem, Int.reduceBEq, Int.reduceBNe, Int.reduceNeg, reduceCtorEq, Nat.reduceEqDiff, Nat.reduceAdd, Nat.reduceLeDiff, Nat.reduceMul, Nat.reduceSub, Int.reduceToNat, Int.reduceLT, Int.reduceLE, load_w, load_a, store_b, idxS_b, set_blk, new_blk, set_next, new_next, len_s, ldW_c, ldA_c, stB_c, toArr_one, size_one, toList_toArr, size_toArr, List.length_cons, List.length_nil, List.getElem?_cons_zero, List.getElem?_cons_succ, Nat.zero_add, Nat.add_zero, hx.at_, peV, plV]
    try simp only [go_sem, Int.reduceBEq, Int.reduceBNe, Int.reduceNeg, reduceCtorEq, Nat.reduceEqDiff, Nat.reduceAdd, Nat.reduceLeDiff, Nat.reduceMul, Nat.reduceSub, Int.reduceToNat, Int.reduceLT, Int.reduceLE, load_w, load_a, store_b, idxS_b, set_blk, new_blk, set_next, new_next, len_s, ldW_c, ldA_c, stB_c, toArr_one, size_one, toList_toArr, size_toArr, List.length_cons, List.length_nil, List.getElem?_cons_zero, List.getElem?_cons_succ, Nat.zero_add, Nat.add_zero, e1, a1, a30, hx0, hp.at_]
    by_cases g2 : l[k].pl.unit < x.pl.unit
    · try simp only [go_sem, Int.reduceBEq, Int.reduceBNe, Int.reduceNeg, reduceCtorEq, Nat.reduceEqDiff, Nat.reduceAdd, Nat.reduceLeDiff, Nat.reduceMul, Nat.reduceSub, Int.reduceToNat, Int.reduceLT, Int.reduceLE, load_w, load_a, store_b, idxS_b, set_blk, new_blk, set_next, new_next, len_s, ldW_c, ldA_c, stB_c, toArr_one, size_one, toList_toArr, size_toArr, List.length_cons, List.length_nil, List.getElem?_cons_zero, List.getElem?_cons_succ, Nat.zero_add, Nat.add_zero, decide_eq_true g2, s1]
      refine ⟨l.length - (k + 1), by omega, k + 1, by omega, rfl, rfl, fun t h ht => ?_⟩
      by_cases e : t = k
      · subst e; exact g2
      · exact hall t h (by omega)
    · try simp only [go_sem, Int.reduceBEq, Int.reduceBNe, Int.reduceNeg, reduceCtorEq, Nat.reduceEqDiff, Nat.reduceAdd, Nat.reduceLeDiff, Nat.reduceMul, Nat.reduceSub, Int.reduceToNat, Int.reduceLT, Int.reduceLE, load_w, load_a, store_b, idxS_b, set_blk, new_blk, set_next, new_next, len_s, ldW_c, ldA_c, stB_c, toArr_one, size_one, toList_toArr, size_toArr, List.length_cons, List.length_nil, List.getElem?_cons_zero, List.getElem?_cons_succ, Nat.zero_add, Nat.add_zero, decide_eq_false g2]
      exact ⟨k, _, hk, hall, fun _ => g2, rfl⟩
  · have e1 : decide ((k : Int) < (l.length : Int)) = false := decide_eq_false (by omega)
    try simp only [go_sem, Int.reduceBEq, Int.reduceBNe, Int.reduceNeg, reduceCtorEq, Nat.reduceEqDiff, Nat.reduceAdd, Nat.reduceLeDiff, Nat.reduceMul, Nat.reduceSub, Int.reduceToNat, Int.reduceLT, Int.reduceLE, load_w, load_a, store_b, idxS_b, set_blk, new_blk, set_next, new_next, len_s, ldW_c, ldA_c, stB_c, toArr_one, size_one, toList_toArr, size_toArr, List.length_cons, List.length_nil, List.getElem?_cons_zero, List.getElem?_cons_succ, Nat.zero_add, Nat.add_zero, e1]
    exact ⟨k, _, hk, hall, fun h => absurd h g1, rfl⟩
end Go.Am


/- Plans: the reference's Put. -/
set_option linter.unusedVariables false
set_option linter.unusedSimpArgs false
namespace Go.Am
open Classical
variable {m : Mem}

theorem dropE_len' {l : List PE} {u : Int} : (dropE l u).length ≤ l.length := List.length_filter_le ..
theorem flat_take {l : List PE} {k : Nat} : (l.flatMap peV).take (k * 4) = (l.take k).flatMap peV := by
  have e : l.flatMap peV = (l.take k).flatMap peV ++ (l.drop k).flatMap peV := by rw [← List.flatMap_append, List.take_append_drop]
  by_cases hk : k ≤ l.length
  · rw [e, List.take_left' (by rw [flat_len peV_len, List.length_take]; congr 1; omega)]
  · rw [List.take_of_length_le (by rw [flat_len peV_len]; omega), List.take_of_length_le (by omega)]
theorem flat_dropk {l : List PE} {k : Nat} (hk : k ≤ l.length) : (l.flatMap peV).drop (k * 4) = (l.drop k).flatMap peV := by
  have e : l.flatMap peV = (l.take k).flatMap peV ++ (l.drop k).flatMap peV := by rw [← List.flatMap_append, List.take_append_drop]
  rw [e, List.drop_left' (by rw [flat_len peV_len, List.length_take]; congr 1; omega)]

def cutE (l : List PE) (u : Int) (k : Nat) : Prop := k ≤ l.length ∧ (∀ t (h : t < l.length), t < k → l[t].pl.unit < u) ∧ ∀ h : k < l.length, ¬ l[k].pl.unit < u

set_option maxHeartbeats 4000000 in
theorem refPut_spec {l : List PE} {x : PE} {f : Int} {c : BitVec 32} {pv : Value} (hs : RowE m l pv) (hl : l.length < 100000) :
    WC R F.ref16_Put [.agg #[.int .i64 f, u32 c, pv], .agg (peV x).toArray] m fun r m' => ∃ lv k, r = .agg #[.int .i64 f, u32 c, lv] ∧ cutE (dropE l x.pl.unit) x.pl.unit k ∧
      Own m m' 4 ((dropE l x.pl.unit).length + 1) (((dropE l x.pl.unit).take k ++ x :: (dropE l x.pl.unit).drop k).flatMap peV) lv ∧ Ext m m' := by
  refine WC.of R.ref16_Put rfl ?_
  simp only [RC.ref16_Put, peV, plV, go_sem, Int.reduceBEq, Int.reduceBNe, Int.reduceNeg, reduceCtorEq, Nat.reduceEqDiff, Nat.reduceAdd, Nat.reduceLeDiff, Nat.reduceMul, Nat.reduceSub, Int.reduceToNat, Int.reduceLT, Int.reduceLE, hs.sl.one, x.one]
  have hx1 : Ext m (m.new (.cells [.int .i64 f, u32 c, pv] (some 3))) := Ext.new
  have hb1 : Bk (m.new (.cells [.int .i64 f, u32 c, pv] (some 3))) m.next [.int .i64 f, u32 c, pv] 3 := Bk.new
  generalize m.new (.cells [.int .i64 f, u32 c, pv] (some 3)) = m1 at hx1 hb1 ⊢
  have hx2 : Ext m1 (m1.new (.cells [.int .i64 x.pl.unit, .int .i64 x.pl.share, .int .i64 x.pl.core, x.pv] (some 4))) := Ext.new
  have hb2 : Bk (m1.new (.cells [.int .i64 x.pl.unit, .int .i64 x.pl.share, .int .i64 x.pl.core, x.pv] (some 4))) m1.next [.int .i64 x.pl.unit, .int .i64 x.pl.share, .int .i64 x.pl.core, x.pv] 4 := Bk.new
  generalize m1.new (.cells [.int .i64 x.pl.unit, .int .i64 x.pl.share, .int .i64 x.pl.core, x.pv] (some 4)) = m2 at hx2 hb2 ⊢
  have hx3 : Ext m2 (m2.new (.cells [.int .i64 0, u32 0#32, .slice none 0 0] (some 3))) := Ext.new
  have hb3 : Bk (m2.new (.cells [.int .i64 0, u32 0#32, .slice none 0 0] (some 3))) m2.next [.int .i64 0, u32 0#32, .slice none 0 0] 3 := Bk.new
  generalize m2.new (.cells [.int .i64 0, u32 0#32, .slice none 0 0] (some 3)) = m3 at hx3 hb3 ⊢
  have hle : m.next + 1 ≤ m1.next ∧ m1.next + 1 ≤ m2.next ∧ m2.next + 1 ≤ m3.next := ⟨hb1.lt, hb2.lt, hb3.lt⟩
  have hb13 := (hb1.keep hx2).keep hx3
  have hb23 := hb2.keep hx3
  have hs3 := ((hs.keep hx1).keep hx2).keep hx3
  try simp only [go_sem, Int.reduceBEq, Int.reduceBNe, Int.reduceNeg, reduceCtorEq, Nat.reduceEqDiff, Nat.reduceAdd, Nat.reduceLeDiff, Nat.reduceMul, Nat.reduceSub, Int.reduceToNat, Int.reduceLT, Int.reduceLE, load_w, load_a, store_b, idxS_b, set_blk, new_blk, set_next, new_next, len_s, ldW_c, ldA_c, stB_c, toArr_one, size_one, toList_toArr, size_toArr, List.length_cons, List.length_nil, List.getElem?_cons_zero, List.getElem?_cons_succ, Nat.zero_add, Nat.add_zero, hb13.at_, hb23.at_]
  refine gC.of (refDrop_spec (u := x.pl.unit) hs3 (by omega)) ?_
  rintro _ m4 ⟨lv, rfl, ho, hx4⟩
  have hlo := ho.sl.one
  have hge := ho.ge
  obtain ⟨wa, wn, wc, rfl⟩ := slice_of ho
  have hb14 := hb13.keep hx4
  have hb24 := hb23.keep hx4
  have hb34 := hb3.keep hx4
  try simp only [go_sem, Int.reduceBEq, Int.reduceBNe, Int.reduceNeg, reduceCtorEq, Nat.reduceEqDiff, Nat.reduceAdd, Nat.reduceLeDiff, Nat.reduceMul, Nat.reduceSub, Int.reduceToNat, Int.reduceLT, Int.reduceLE, load_w, load_a, store_b, idxS_b, set_blk, new_blk, set_next, new_next, len_s, ldW_c, ldA_c, stB_c, toArr_one, size_one, toList_toArr, size_toArr, List.length_cons, List.length_nil, List.getElem?_cons_zero, List.getElem?_cons_succ, Nat.zero_add, Nat.add_zero, hlo, hb14.at_]
  have hU5 : Upd m4 (m4.set m.next (some (.cells [.int .i64 f, u32 c, .slice wa wn wc] (some 3)))) [m.next] := Upd.set (by simp)
  have hb15 : Bk (m4.set m.next (some (.cells [.int .i64 f, u32 c, .slice wa wn wc] (some 3)))) m.next [.int .i64 f, u32 c, .slice wa wn wc] 3 := ⟨by simp [Mem.set], by have := hb14.lt; simpa [Mem.set] using this⟩
  generalize m4.set m.next (some (.cells [.int .i64 f, u32 c, .slice wa wn wc] (some 3))) = m5 at hU5 hb15 ⊢
  have hb25 := hb24.upd hU5 (by simp; omega)
  have hb35 := hb34.upd hU5 (by simp; omega)
  have ho5 := ho.updq hU5 (fun b hb => by have := hge b hb; simp; omega)
  have hx05 : Ext m m5 := hU5.ext_of (((hx1.trans hx2).trans hx3).trans hx4) (by simp)
  have hdl := dropE_len' (l := l) (u := x.pl.unit)
  generalize dropE l x.pl.unit = d at *
  refine WL.mono (refPut_loop (x := x) (br := m2.next) ho5.rowE (by omega) hb15 hb25) ?_
  rintro _ _ _ ⟨hm, rfl, k, rest, hk, hk1, hk2, rfl⟩
  replace hm := hm.symm
  subst hm
  have hs5 := ho5.rowE
  have hc5 := ho5.cut
  have hxa : Ext m5 (m5.new (.cells [] (some 4))) := Ext.new
  obtain ⟨vk, t1, t2, -, -⟩ := (hs5.keep hxa).sl.to (hc5.keep hs5.lt hxa) (k := .i64) (i := k) (by omega)
  rw [flat_take] at t2
  obtain ⟨v1, m6, f1, f2, f3⟩ := app_copy (by_ := 48) t2 peV_flat (by omega) (by omega)
  have F1 := app_full f1 t2.src.2 (fun _ _ _ e => by cases e; rfl)
  obtain ⟨v2, m8, f4, f5, f6⟩ := f2.app (by_ := 48) (es := peV x) f3 (by omega) rfl (peV_one x) (by omega) (by omega)
  have F2 := app_full f4 rfl F1
  obtain ⟨vr, t3, t4, -, -⟩ := (hs5.keep f6).sl.from (hc5.keep hs5.lt f6) (k := .i64) (i := k) (by omega)
  rw [flat_dropk hk] at t4
  obtain ⟨v3, m9, f7, f8, f9⟩ := f5.appAll (by_ := 48) f6 t4 peV_flat (by omega) (by omega) F2
  simp only [peV, plV] at f4
  have hb16 := hb15.keep f3
  have hb26 := hb25.keep f3
  have hb18 := hb15.keep f6
  have hb19 := hb15.keep f9
  have hb39 := hb35.keep f9
  have hlo9 := f8.sl.one
  have hge9 := f8.ge
  obtain ⟨ya, yn, yc, rfl⟩ := slice_of f8
  have hbn5 := hb15.ne
  have ne1 : (m.next = m2.next) = False := eq_false (by omega)
  have ne2 : (m2.next = m.next) = False := eq_false (by omega)
  simp only [pt]
  try simp only [go_sem, Int.reduceBEq, Int.reduceBNe, Int.reduceNeg, reduceCtorEq, Nat.reduceEqDiff, Nat.reduceAdd, Nat.reduceLeDiff, Nat.reduceMul, Nat.reduceSub, Int.reduceToNat, Int.reduceLT, Int.reduceLE, load_w, load_a, store_b, idxS_b, set_blk, new_blk, set_next, new_next, len_s, ldW_c, ldA_c, stB_c, toArr_one, size_one, toList_toArr, size_toArr, List.length_cons, List.length_nil, List.getElem?_cons_zero, List.getElem?_cons_succ, Nat.zero_add, Nat.add_zero, hb15.at_, hbn5, t1, f1]
  try simp only [go_sem, Int.reduceBEq, Int.reduceBNe, Int.reduceNeg, reduceCtorEq, Nat.reduceEqDiff, Nat.reduceAdd, Nat.reduceLeDiff, Nat.reduceMul, Nat.reduceSub, Int.reduceToNat, Int.reduceLT, Int.reduceLE, load_w, load_a, store_b, idxS_b, set_blk, new_blk, set_next, new_next, len_s, ldW_c, ldA_c, stB_c, toArr_one, size_one, toList_toArr, size_toArr, List.length_cons, List.length_nil, List.getElem?_cons_zero, List.getElem?_cons_succ, Nat.zero_add, Nat.add_zero, hb26.at_, x.one, f4]
  try simp only [go_sem, Int.reduceBEq, Int.reduceBNe, Int.reduceNeg, reduceCtorEq, Nat.reduceEqDiff, Nat.reduceAdd, Nat.reduceLeDiff, Nat.reduceMul, Nat.reduceSub, Int.reduceToNat, Int.reduceLT, Int.reduceLE, load_w, load_a, store_b, idxS_b, set_blk, new_blk, set_next, new_next, len_s, ldW_c, ldA_c, stB_c, toArr_one, size_one, toList_toArr, size_toArr, List.length_cons, List.length_nil, List.getElem?_cons_zero, List.getElem?_cons_succ, Nat.zero_add, Nat.add_zero, hb18.at_, t3, f7]
  try simp only [go_sem, Int.reduceBEq, Int.reduceBNe, Int.reduceNeg, reduceCtorEq, Nat.reduceEqDiff, Nat.reduceAdd, Nat.reduceLeDiff, Nat.reduceMul, Nat.reduceSub, Int.reduceToNat, Int.reduceLT, Int.reduceLE, load_w, load_a, store_b, idxS_b, set_blk, new_blk, set_next, new_next, len_s, ldW_c, ldA_c, stB_c, toArr_one, size_one, toList_toArr, size_toArr, List.length_cons, List.length_nil, List.getElem?_cons_zero, List.getElem?_cons_succ, Nat.zero_add, Nat.add_zero, hb19.at_, hlo9, hb39.at_, ne1, ne2]
  have hU : ∀ {m'}, Upd m9 m' [m.next, m2.next] → Own m m' 4 (d.length + 1) ((d.take k ++ x :: d.drop k).flatMap peV) (.slice ya yn yc) ∧ Ext m m' := fun hU => by
    have hn5 := hx05.next
    have hn5' := hb35.lt
    have h8 := (f8.weak hx05).updq hU (fun b hb => by have := hge9 b hb; have := hb15.lt; simp; omega)
    refine ⟨?_, hU.ext_of (hx05.trans f9) (by simp; omega)⟩
    rw [show k + 1 + (d.length - k) = d.length + 1 by omega] at h8
    rw [List.flatMap_append, List.flatMap_cons]
    simpa using h8
  refine ⟨_, k, rfl, ⟨hk, hk1, hk2⟩, hU ?_⟩
  exact ((Upd.set (fp := [m.next, m2.next]) (by simp)).trans (Upd.set (fp := [m.next, m2.next]) (by simp)) (fun _ h => h) (fun _ h => .inl h))
end Go.Am


/- The law PlanRooms walks. -/
set_option linter.unusedVariables false
set_option linter.unusedSimpArgs false
namespace Go.Am
open Classical
variable {m : Mem}

theorem light_l {p : PlanD} (h : lightP p = true) : PlanL p := by
  simp only [lightP, Bool.and_eq_true, decide_eq_true_eq, List.all_eq_true] at h
  refine ⟨by omega, fun x hx => ?_⟩
  have := h.1 x (by rw [List.take_of_length_le (by omega)]; exact hx)
  omega

set_option maxHeartbeats 4000000 in
theorem PlanRooms_spec {p : PlanD} {v : Value} {c : Int} (hv : PlanV m p v) : WC R F.law16_PlanRooms [v, .int .i64 c] m fun v m' => v = .bool true := by
  refine WC.of R.law16_PlanRooms rfl ?_
  obtain ⟨pv, rfl, hp⟩ := hv
  simp only [RC.law16_PlanRooms, planV, go_sem, Int.reduceBEq, Int.reduceBNe, Int.reduceNeg, reduceCtorEq, Nat.reduceEqDiff, Nat.reduceAdd, Nat.reduceLeDiff, Nat.reduceMul, Nat.reduceSub, Int.reduceToNat, Int.reduceLT, Int.reduceLE, hp.one]
  have hx : Ext m (m.new (.cells [.int .i64 p.frame, u32 p.cores, pv] (some 3))) := Ext.new
  have hb : Bk (m.new (.cells [.int .i64 p.frame, u32 p.cores, pv] (some 3))) m.next [.int .i64 p.frame, u32 p.cores, pv] 3 := Bk.new
  generalize m.new (.cells [.int .i64 p.frame, u32 p.cores, pv] (some 3)) = m1 at hx hb ⊢
  have hp := hp.keep hx
  try simp only [go_sem, Int.reduceBEq, Int.reduceBNe, Int.reduceNeg, reduceCtorEq, Nat.reduceEqDiff, Nat.reduceAdd, Nat.reduceLeDiff, Nat.reduceMul, Nat.reduceSub, Int.reduceToNat, Int.reduceLT, Int.reduceLE, load_w, load_a, store_b, idxS_b, set_blk, new_blk, set_next, new_next, len_s, ldW_c, ldA_c, stB_c, toArr_one, size_one, toList_toArr, size_toArr, List.length_cons, List.length_nil, List.getElem?_cons_zero, List.getElem?_cons_succ, Nat.zero_add, Nat.add_zero, hb.at_]
  refine gC.of (Light_spec (p := p) ⟨pv, rfl, hp⟩) ?_
  rintro _ m2 ⟨rfl, hx2⟩
  simp only [go_sem, Int.reduceBEq, Int.reduceBNe, Int.reduceNeg, reduceCtorEq, Nat.reduceEqDiff, Nat.reduceAdd, Nat.reduceLeDiff, Nat.reduceMul, Nat.reduceSub, Int.reduceToNat, Int.reduceLT, Int.reduceLE]
  have hp := hp.keep hx2
  have hb := hb.keep hx2
  try simp only [go_sem, Int.reduceBEq, Int.reduceBNe, Int.reduceNeg, reduceCtorEq, Nat.reduceEqDiff, Nat.reduceAdd, Nat.reduceLeDiff, Nat.reduceMul, Nat.reduceSub, Int.reduceToNat, Int.reduceLT, Int.reduceLE, load_w, load_a, store_b, idxS_b, set_blk, new_blk, set_next, new_next, len_s, ldW_c, ldA_c, stB_c, toArr_one, size_one, toList_toArr, size_toArr, List.length_cons, List.length_nil, List.getElem?_cons_zero, List.getElem?_cons_succ, Nat.zero_add, Nat.add_zero, hb.at_]
  refine gT.of (fun h1' => ?_) (fun h1' => ?_) <;> (have h1 := h1'; try simp only [decide_eq_true_eq, decide_eq_false_iff_not, beq_iff_eq, bne_iff_ne, beq_eq_false_iff_ne, ne_eq, Bool.not_eq_true', Bool.not_eq_false', bne_eq_false_iff_eq, Int.not_lt, Int.not_le] at h1)
  · try simp only [go_sem, Int.reduceBEq, Int.reduceBNe, Int.reduceNeg, reduceCtorEq, Nat.reduceEqDiff, Nat.reduceAdd, Nat.reduceLeDiff, Nat.reduceMul, Nat.reduceSub, Int.reduceToNat, Int.reduceLT, Int.reduceLE, load_w, load_a, store_b, idxS_b, set_blk, new_blk, set_next, new_next, len_s, ldW_c, ldA_c, stB_c, toArr_one, size_one, toList_toArr, size_toArr, List.length_cons, List.length_nil, List.getElem?_cons_zero, List.getElem?_cons_succ, Nat.zero_add, Nat.add_zero, h1']
    refine gC.of (ok_spec R.law16_awake) ?_
    rintro _ m_ ⟨rfl, hm_⟩
    replace hm_ := hm_.symm
    subst hm_
    simp only [go_sem, Int.reduceBEq, Int.reduceBNe, Int.reduceNeg, reduceCtorEq, Nat.reduceEqDiff, Nat.reduceAdd, Nat.reduceLeDiff, Nat.reduceMul, Nat.reduceSub, Int.reduceToNat, Int.reduceLT, Int.reduceLE]
  · have hl := light_l (p := p) (by simpa using h1')
    try simp only [go_sem, Int.reduceBEq, Int.reduceBNe, Int.reduceNeg, reduceCtorEq, Nat.reduceEqDiff, Nat.reduceAdd, Nat.reduceLeDiff, Nat.reduceMul, Nat.reduceSub, Int.reduceToNat, Int.reduceLT, Int.reduceLE, load_w, load_a, store_b, idxS_b, set_blk, new_blk, set_next, new_next, len_s, ldW_c, ldA_c, stB_c, toArr_one, size_one, toList_toArr, size_toArr, List.length_cons, List.length_nil, List.getElem?_cons_zero, List.getElem?_cons_succ, Nat.zero_add, Nat.add_zero, h1', hb.at_]
    refine gC.of (refRight_spec (p := p) ⟨pv, rfl, hp⟩ hl.len hl.pcs) ?_
    rintro _ m3 ⟨rfl, hx3⟩
    simp only [go_sem, Int.reduceBEq, Int.reduceBNe, Int.reduceNeg, reduceCtorEq, Nat.reduceEqDiff, Nat.reduceAdd, Nat.reduceLeDiff, Nat.reduceMul, Nat.reduceSub, Int.reduceToNat, Int.reduceLT, Int.reduceLE]
    have hp := hp.keep hx3
    have hb := hb.keep hx3
    try simp only [go_sem, Int.reduceBEq, Int.reduceBNe, Int.reduceNeg, reduceCtorEq, Nat.reduceEqDiff, Nat.reduceAdd, Nat.reduceLeDiff, Nat.reduceMul, Nat.reduceSub, Int.reduceToNat, Int.reduceLT, Int.reduceLE, load_w, load_a, store_b, idxS_b, set_blk, new_blk, set_next, new_next, len_s, ldW_c, ldA_c, stB_c, toArr_one, size_one, toList_toArr, size_toArr, List.length_cons, List.length_nil, List.getElem?_cons_zero, List.getElem?_cons_succ, Nat.zero_add, Nat.add_zero, hb.at_]
    refine gT.of (fun h2' => ?_) (fun h2' => ?_) <;> (have h2 := h2'; try simp only [decide_eq_true_eq, decide_eq_false_iff_not, beq_iff_eq, bne_iff_ne, beq_eq_false_iff_ne, ne_eq, Bool.not_eq_true', Bool.not_eq_false', bne_eq_false_iff_eq, Int.not_lt, Int.not_le] at h2)
    · try simp only [go_sem, Int.reduceBEq, Int.reduceBNe, Int.reduceNeg, reduceCtorEq, Nat.reduceEqDiff, Nat.reduceAdd, Nat.reduceLeDiff, Nat.reduceMul, Nat.reduceSub, Int.reduceToNat, Int.reduceLT, Int.reduceLE, load_w, load_a, store_b, idxS_b, set_blk, new_blk, set_next, new_next, len_s, ldW_c, ldA_c, stB_c, toArr_one, size_one, toList_toArr, size_toArr, List.length_cons, List.length_nil, List.getElem?_cons_zero, List.getElem?_cons_succ, Nat.zero_add, Nat.add_zero, h2']
      refine gC.of (ok_spec R.law16_awake) ?_
      rintro _ m_ ⟨rfl, hm_⟩
      replace hm_ := hm_.symm
      subst hm_
      simp only [go_sem, Int.reduceBEq, Int.reduceBNe, Int.reduceNeg, reduceCtorEq, Nat.reduceEqDiff, Nat.reduceAdd, Nat.reduceLeDiff, Nat.reduceMul, Nat.reduceSub, Int.reduceToNat, Int.reduceLT, Int.reduceLE]
    · have hR : RightP p := by simpa using h2'
      have hr := hR.pr hl
      try simp only [go_sem, Int.reduceBEq, Int.reduceBNe, Int.reduceNeg, reduceCtorEq, Nat.reduceEqDiff, Nat.reduceAdd, Nat.reduceLeDiff, Nat.reduceMul, Nat.reduceSub, Int.reduceToNat, Int.reduceLT, Int.reduceLE, load_w, load_a, store_b, idxS_b, set_blk, new_blk, set_next, new_next, len_s, ldW_c, ldA_c, stB_c, toArr_one, size_one, toList_toArr, size_toArr, List.length_cons, List.length_nil, List.getElem?_cons_zero, List.getElem?_cons_succ, Nat.zero_add, Nat.add_zero, h2', hb.at_]
      refine gC.of (refWants_spec (p := p) ⟨pv, rfl, hp⟩ hl.len) ?_
      rintro w m4 ⟨ho, hx4⟩
      have hp := hp.keep hx4
      have hb := hb.keep hx4
      have hsl := ho.sl
      have hwl : (wtsL p.places).length < 1000000 := by simpa [wtsL] using hl.len
      have hws : ∀ w ∈ wtsL p.places, 0 ≤ w.2 ∧ w.2 ≤ 64 := by
        intro w hw
        obtain ⟨x, hx, rfl⟩ := List.mem_map.1 hw
        exact hr.sh x hx
      have hall := hR.all
      have hsum := sum_take_bounds (i := (wtsL p.places).length) hws hwl
      rw [List.take_length] at hsum
      have hrooms : 0 ≤ freeP p ∧ freeP p ≤ 64 * 16 := by
        have hk : ∀ y ∈ (csP p 16).map (fun (c : Nat) => roomP p c), 0 ≤ y ∧ y ≤ 64 := by
          intro y hy
          obtain ⟨c, -, rfl⟩ := List.mem_map.1 hy
          exact roomP_le hr
        have b1 := sumI_le (by omega : (0 : Int) ≤ 0) (by omega) hk (i := (csP p 16).length)
        rw [List.length_map, List.take_of_length_le (by simp)] at b1
        have := csP_len (p := p) (n := 16)
        unfold freeP; omega
      have hlen := csP_len (p := p) (n := 16)
      have hfm : 0 ≤ p.frame * ((csP p 16).length : Int) ∧ p.frame * ((csP p 16).length : Int) ≤ 64001024 := by omega
      try simp only [go_sem, Int.reduceBEq, Int.reduceBNe, Int.reduceNeg, reduceCtorEq, Nat.reduceEqDiff, Nat.reduceAdd, Nat.reduceLeDiff, Nat.reduceMul, Nat.reduceSub, Int.reduceToNat, Int.reduceLT, Int.reduceLE, load_w, load_a, store_b, idxS_b, set_blk, new_blk, set_next, new_next, len_s, ldW_c, ldA_c, stB_c, toArr_one, size_one, toList_toArr, size_toArr, List.length_cons, List.length_nil, List.getElem?_cons_zero, List.getElem?_cons_succ, Nat.zero_add, Nat.add_zero]
      generalize hW : wtsL p.places = W at *
      refine WL.of (fun n e m' => ∃ i : Nat, i ≤ W.length ∧ n = W.length - i ∧ e = [(1, .int .i64 c), (2, pt m.next), (5, .int .i64 (sumW (W.take i))), (6, w), (7, .int .i64 i)] ∧ m' = m4) W.length
        ⟨0, by omega, by omega, by simp only [go_sem, Int.reduceBEq, Int.reduceBNe, Int.reduceNeg, reduceCtorEq, Nat.reduceEqDiff, Nat.reduceAdd, Nat.reduceLeDiff, Nat.reduceMul, Nat.reduceSub, Int.reduceToNat, Int.reduceLT, Int.reduceLE, sumW, List.take_zero, List.map_nil, List.sum_nil] <;> rfl, rfl⟩ ?_
      rintro _ _ m5 ⟨i, hi, rfl, rfl, hm5⟩
      replace hm5 := hm5.symm
      subst hm5
      simp only [RB.law16_PlanRooms_1, pt, go_sem, Int.reduceBEq, Int.reduceBNe, Int.reduceNeg, reduceCtorEq, Nat.reduceEqDiff, Nat.reduceAdd, Nat.reduceLeDiff, Nat.reduceMul, Nat.reduceSub, Int.reduceToNat, Int.reduceLT, Int.reduceLE, hsl.len]
      refine gT.of (fun h3' => ?_) (fun h3' => ?_) <;> (have h3 := h3'; try simp only [decide_eq_true_eq, decide_eq_false_iff_not, beq_iff_eq, bne_iff_ne, beq_eq_false_iff_ne, ne_eq, Bool.not_eq_true', Bool.not_eq_false', bne_eq_false_iff_eq, Int.not_lt, Int.not_le] at h3)
      · have hil : i < W.length := by omega
        obtain ⟨b, o, a1, a2, a3, a4⟩ := hsl.elem wtV_len (k := .i64) hil
        have a31 := a3 1 (by omega)
        have hf := sumW_succ hil
        have b1 := sum_take_bounds (i := i) hws hwl
        have b2 := hws _ (List.getElem_mem hil)
        simp only [wtV, List.getElem?_cons_zero, List.getElem?_cons_succ] at a31
        try simp only [go_sem, Int.reduceBEq, Int.reduceBNe, Int.reduceNeg, reduceCtorEq, Nat.reduceEqDiff, Nat.reduceAdd, Nat.reduceLeDiff, Nat.reduceMul, Nat.reduceSub, Int.reduceToNat, Int.reduceLT, Int.reduceLE, load_w, load_a, store_b, idxS_b, set_blk, new_blk, set_next, new_next, len_s, ldW_c, ldA_c, stB_c, toArr_one, size_one, toList_toArr, size_toArr, List.length_cons, List.length_nil, List.getElem?_cons_zero, List.getElem?_cons_succ, Nat.zero_add, Nat.add_zero, a1, a31, step1 (show i < 1000000 by omega)]
        refine ⟨W.length - (i + 1), by omega, i + 1, by omega, rfl, ?_⟩
        rw [hf, wrap_i64 (by omega) (by omega)]
      · rw [List.take_of_length_le (show W.length ≤ i by omega)]
        try simp only [go_sem, Int.reduceBEq, Int.reduceBNe, Int.reduceNeg, reduceCtorEq, Nat.reduceEqDiff, Nat.reduceAdd, Nat.reduceLeDiff, Nat.reduceMul, Nat.reduceSub, Int.reduceToNat, Int.reduceLT, Int.reduceLE, load_w, load_a, store_b, idxS_b, set_blk, new_blk, set_next, new_next, len_s, ldW_c, ldA_c, stB_c, toArr_one, size_one, toList_toArr, size_toArr, List.length_cons, List.length_nil, List.getElem?_cons_zero, List.getElem?_cons_succ, Nat.zero_add, Nat.add_zero, h3', hb.at_]
        refine gC.of (Free_spec (p := p) ⟨pv, rfl, hp⟩ hr) ?_
        rintro _ m5 ⟨rfl, hx5⟩
        simp only [go_sem, Int.reduceBEq, Int.reduceBNe, Int.reduceNeg, reduceCtorEq, Nat.reduceEqDiff, Nat.reduceAdd, Nat.reduceLeDiff, Nat.reduceMul, Nat.reduceSub, Int.reduceToNat, Int.reduceLT, Int.reduceLE]
        have hp := hp.keep hx5
        have hb5 := hb.keep hx5
        try simp only [go_sem, Int.reduceBEq, Int.reduceBNe, Int.reduceNeg, reduceCtorEq, Nat.reduceEqDiff, Nat.reduceAdd, Nat.reduceLeDiff, Nat.reduceMul, Nat.reduceSub, Int.reduceToNat, Int.reduceLT, Int.reduceLE, load_w, load_a, store_b, idxS_b, set_blk, new_blk, set_next, new_next, len_s, ldW_c, ldA_c, stB_c, toArr_one, size_one, toList_toArr, size_toArr, List.length_cons, List.length_nil, List.getElem?_cons_zero, List.getElem?_cons_succ, Nat.zero_add, Nat.add_zero, hb.at_, hb5.at_]
        refine gC.of (refFree_spec (p := p) ⟨pv, rfl, hp⟩ hr) ?_
        rintro _ m6 ⟨rfl, hx6⟩
        simp only [go_sem, Int.reduceBEq, Int.reduceBNe, Int.reduceNeg, reduceCtorEq, Nat.reduceEqDiff, Nat.reduceAdd, Nat.reduceLeDiff, Nat.reduceMul, Nat.reduceSub, Int.reduceToNat, Int.reduceLT, Int.reduceLE]
        have hp := hp.keep hx6
        have hb6 := hb5.keep hx6
        have q1 : (freeP p != freeR p) = false := by rw [hR.free]; simp
        try simp only [go_sem, Int.reduceBEq, Int.reduceBNe, Int.reduceNeg, reduceCtorEq, Nat.reduceEqDiff, Nat.reduceAdd, Nat.reduceLeDiff, Nat.reduceMul, Nat.reduceSub, Int.reduceToNat, Int.reduceLT, Int.reduceLE, load_w, load_a, store_b, idxS_b, set_blk, new_blk, set_next, new_next, len_s, ldW_c, ldA_c, stB_c, toArr_one, size_one, toList_toArr, size_toArr, List.length_cons, List.length_nil, List.getElem?_cons_zero, List.getElem?_cons_succ, Nat.zero_add, Nat.add_zero, hb5.at_, hb6.at_, q1]
        refine gC.of (Free_spec (p := p) ⟨pv, rfl, hp⟩ hr) ?_
        rintro _ m7 ⟨rfl, hx7⟩
        simp only [go_sem, Int.reduceBEq, Int.reduceBNe, Int.reduceNeg, reduceCtorEq, Nat.reduceEqDiff, Nat.reduceAdd, Nat.reduceLeDiff, Nat.reduceMul, Nat.reduceSub, Int.reduceToNat, Int.reduceLT, Int.reduceLE]
        have hp := hp.keep hx7
        have hb7 := hb6.keep hx7
        have q2 : IntKind.wrap .i64 (freeP p + sumW W) = freeP p + sumW W := by rw [wrap_i64 (by omega) (by omega)]
        try simp only [go_sem, Int.reduceBEq, Int.reduceBNe, Int.reduceNeg, reduceCtorEq, Nat.reduceEqDiff, Nat.reduceAdd, Nat.reduceLeDiff, Nat.reduceMul, Nat.reduceSub, Int.reduceToNat, Int.reduceLT, Int.reduceLE, load_w, load_a, store_b, idxS_b, set_blk, new_blk, set_next, new_next, len_s, ldW_c, ldA_c, stB_c, toArr_one, size_one, toList_toArr, size_toArr, List.length_cons, List.length_nil, List.getElem?_cons_zero, List.getElem?_cons_succ, Nat.zero_add, Nat.add_zero, hb6.at_, hb7.at_, q2]
        refine gC.of (refCores_spec (p := p) ⟨pv, rfl, hp⟩) ?_
        rintro w8 m8 ⟨ho8, hx8⟩
        have hp := hp.keep hx8
        have hb8 := hb7.keep hx8
        have q3 : IntKind.wrap .i64 (p.frame * ((csP p 16).length : Int)) = p.frame * ((csP p 16).length : Int) := by rw [wrap_i64 (by omega) (by omega)]
        have q4 : (freeP p + sumW W != p.frame * ((csP p 16).length : Int)) = false := by rw [hall]; simp
        try simp only [go_sem, Int.reduceBEq, Int.reduceBNe, Int.reduceNeg, reduceCtorEq, Nat.reduceEqDiff, Nat.reduceAdd, Nat.reduceLeDiff, Nat.reduceMul, Nat.reduceSub, Int.reduceToNat, Int.reduceLT, Int.reduceLE, load_w, load_a, store_b, idxS_b, set_blk, new_blk, set_next, new_next, len_s, ldW_c, ldA_c, stB_c, toArr_one, size_one, toList_toArr, size_toArr, List.length_cons, List.length_nil, List.getElem?_cons_zero, List.getElem?_cons_succ, Nat.zero_add, Nat.add_zero, hb7.at_, hb8.at_, ho8.sl.len, q2, q3, q4]
        refine gC.of (Room_spec (p := p) ⟨pv, rfl, hp⟩ hr) ?_
        rintro _ m9 ⟨rfl, hx9⟩
        simp only [go_sem, Int.reduceBEq, Int.reduceBNe, Int.reduceNeg, reduceCtorEq, Nat.reduceEqDiff, Nat.reduceAdd, Nat.reduceLeDiff, Nat.reduceMul, Nat.reduceSub, Int.reduceToNat, Int.reduceLT, Int.reduceLE]
        have hp := hp.keep hx9
        have hb9 := hb8.keep hx9
        try simp only [go_sem, Int.reduceBEq, Int.reduceBNe, Int.reduceNeg, reduceCtorEq, Nat.reduceEqDiff, Nat.reduceAdd, Nat.reduceLeDiff, Nat.reduceMul, Nat.reduceSub, Int.reduceToNat, Int.reduceLT, Int.reduceLE, load_w, load_a, store_b, idxS_b, set_blk, new_blk, set_next, new_next, len_s, ldW_c, ldA_c, stB_c, toArr_one, size_one, toList_toArr, size_toArr, List.length_cons, List.length_nil, List.getElem?_cons_zero, List.getElem?_cons_succ, Nat.zero_add, Nat.add_zero, hb8.at_, hb9.at_]
        refine gC.of (refRoom_spec (p := p) ⟨pv, rfl, hp⟩ hr) ?_
        rintro _ m10 ⟨rfl, hx10⟩
        simp only [go_sem, Int.reduceBEq, Int.reduceBNe, Int.reduceNeg, reduceCtorEq, Nat.reduceEqDiff, Nat.reduceAdd, Nat.reduceLeDiff, Nat.reduceMul, Nat.reduceSub, Int.reduceToNat, Int.reduceLT, Int.reduceLE]
        have hp := hp.keep hx10
        have hb10 := hb9.keep hx10
        have q5 : (roomP p c != roomR p c) = false := by rw [hR.room]; simp
        try simp only [go_sem, Int.reduceBEq, Int.reduceBNe, Int.reduceNeg, reduceCtorEq, Nat.reduceEqDiff, Nat.reduceAdd, Nat.reduceLeDiff, Nat.reduceMul, Nat.reduceSub, Int.reduceToNat, Int.reduceLT, Int.reduceLE, load_w, load_a, store_b, idxS_b, set_blk, new_blk, set_next, new_next, len_s, ldW_c, ldA_c, stB_c, toArr_one, size_one, toList_toArr, size_toArr, List.length_cons, List.length_nil, List.getElem?_cons_zero, List.getElem?_cons_succ, Nat.zero_add, Nat.add_zero, hb9.at_, hb10.at_, q5]
        refine gC.of (refHas_spec (p := p) ⟨pv, rfl, hp⟩) ?_
        rintro _ m11 ⟨rfl, hx11⟩
        simp only [go_sem, Int.reduceBEq, Int.reduceBNe, Int.reduceNeg, reduceCtorEq, Nat.reduceEqDiff, Nat.reduceAdd, Nat.reduceLeDiff, Nat.reduceMul, Nat.reduceSub, Int.reduceToNat, Int.reduceLT, Int.reduceLE]
        have hp := hp.keep hx11
        have hb11 := hb10.keep hx11
        refine gT.of (fun h4' => ?_) (fun h4' => ?_) <;> (have h4 := h4'; try simp only [decide_eq_true_eq, decide_eq_false_iff_not, beq_iff_eq, bne_iff_ne, beq_eq_false_iff_ne, ne_eq, Bool.not_eq_true', Bool.not_eq_false', bne_eq_false_iff_eq, Int.not_lt, Int.not_le] at h4)
        · have hno : hasC p c = false := by simpa using h4'
          try simp only [go_sem, Int.reduceBEq, Int.reduceBNe, Int.reduceNeg, reduceCtorEq, Nat.reduceEqDiff, Nat.reduceAdd, Nat.reduceLeDiff, Nat.reduceMul, Nat.reduceSub, Int.reduceToNat, Int.reduceLT, Int.reduceLE, load_w, load_a, store_b, idxS_b, set_blk, new_blk, set_next, new_next, len_s, ldW_c, ldA_c, stB_c, toArr_one, size_one, toList_toArr, size_toArr, List.length_cons, List.length_nil, List.getElem?_cons_zero, List.getElem?_cons_succ, Nat.zero_add, Nat.add_zero, hb11.at_, h4', hno]
          refine gC.of (Room_spec (p := p) ⟨pv, rfl, hp⟩ hr) ?_
          rintro _ m12 ⟨rfl, hx12⟩
          simp only [go_sem, Int.reduceBEq, Int.reduceBNe, Int.reduceNeg, reduceCtorEq, Nat.reduceEqDiff, Nat.reduceAdd, Nat.reduceLeDiff, Nat.reduceMul, Nat.reduceSub, Int.reduceToNat, Int.reduceLT, Int.reduceLE]
          have q6 : (roomP p c == 0) = true := by unfold roomP; rw [hno]; rfl
          try simp only [go_sem, Int.reduceBEq, Int.reduceBNe, Int.reduceNeg, reduceCtorEq, Nat.reduceEqDiff, Nat.reduceAdd, Nat.reduceLeDiff, Nat.reduceMul, Nat.reduceSub, Int.reduceToNat, Int.reduceLT, Int.reduceLE, load_w, load_a, store_b, idxS_b, set_blk, new_blk, set_next, new_next, len_s, ldW_c, ldA_c, stB_c, toArr_one, size_one, toList_toArr, size_toArr, List.length_cons, List.length_nil, List.getElem?_cons_zero, List.getElem?_cons_succ, Nat.zero_add, Nat.add_zero, q6]
          refine gC.of (ok_spec R.law16_awake) ?_
          rintro _ m_ ⟨rfl, hm_⟩
          replace hm_ := hm_.symm
          subst hm_
          simp only [go_sem, Int.reduceBEq, Int.reduceBNe, Int.reduceNeg, reduceCtorEq, Nat.reduceEqDiff, Nat.reduceAdd, Nat.reduceLeDiff, Nat.reduceMul, Nat.reduceSub, Int.reduceToNat, Int.reduceLT, Int.reduceLE]
          try simp only [go_sem, Int.reduceBEq, Int.reduceBNe, Int.reduceNeg, reduceCtorEq, Nat.reduceEqDiff, Nat.reduceAdd, Nat.reduceLeDiff, Nat.reduceMul, Nat.reduceSub, Int.reduceToNat, Int.reduceLT, Int.reduceLE, load_w, load_a, store_b, idxS_b, set_blk, new_blk, set_next, new_next, len_s, ldW_c, ldA_c, stB_c, toArr_one, size_one, toList_toArr, size_toArr, List.length_cons, List.length_nil, List.getElem?_cons_zero, List.getElem?_cons_succ, Nat.zero_add, Nat.add_zero, q6]
        · have hyes : hasC p c = true := by simpa using h4'
          obtain ⟨h0, h16⟩ := hasC_range hyes
          obtain ⟨k, rfl⟩ := Int.eq_ofNat_of_zero_le h0
          try simp only [go_sem, Int.reduceBEq, Int.reduceBNe, Int.reduceNeg, reduceCtorEq, Nat.reduceEqDiff, Nat.reduceAdd, Nat.reduceLeDiff, Nat.reduceMul, Nat.reduceSub, Int.reduceToNat, Int.reduceLT, Int.reduceLE, load_w, load_a, store_b, idxS_b, set_blk, new_blk, set_next, new_next, len_s, ldW_c, ldA_c, stB_c, toArr_one, size_one, toList_toArr, size_toArr, List.length_cons, List.length_nil, List.getElem?_cons_zero, List.getElem?_cons_succ, Nat.zero_add, Nat.add_zero, hb11.at_, h4', hyes]
          refine gC.of (Windows_spec (p := p) ⟨pv, rfl, hp⟩ hl.len hl.pcs) ?_
          rintro _ m12 ⟨rfl, hx12⟩
          simp only [go_sem, Int.reduceBEq, Int.reduceBNe, Int.reduceNeg, reduceCtorEq, Nat.reduceEqDiff, Nat.reduceAdd, Nat.reduceLeDiff, Nat.reduceMul, Nat.reduceSub, Int.reduceToNat, Int.reduceLT, Int.reduceLE]
          have hp := hp.keep hx12
          have hb12 := hb11.keep hx12
          try simp only [go_sem, Int.reduceBEq, Int.reduceBNe, Int.reduceNeg, reduceCtorEq, Nat.reduceEqDiff, Nat.reduceAdd, Nat.reduceLeDiff, Nat.reduceMul, Nat.reduceSub, Int.reduceToNat, Int.reduceLT, Int.reduceLE, load_w, load_a, store_b, idxS_b, set_blk, new_blk, set_next, new_next, len_s, ldW_c, ldA_c, stB_c, toArr_one, size_one, toList_toArr, size_toArr, List.length_cons, List.length_nil, List.getElem?_cons_zero, List.getElem?_cons_succ, Nat.zero_add, Nat.add_zero, hb11.at_, hb12.at_]
          refine gC.of (refWindows_spec (p := p) ⟨pv, rfl, hp⟩ hl.len hl.pcs) ?_
          rintro _ m13 ⟨rfl, hx13⟩
          simp only [go_sem, Int.reduceBEq, Int.reduceBNe, Int.reduceNeg, reduceCtorEq, Nat.reduceEqDiff, Nat.reduceAdd, Nat.reduceLeDiff, Nat.reduceMul, Nat.reduceSub, Int.reduceToNat, Int.reduceLT, Int.reduceLE]
          have hp := hp.keep hx13
          have hb13 := hb12.keep hx13
          have q7 : decide (winW p.places (k : Int) = rwN p.places (k : Int) 64) = true := by rw [windows_same]; simp
          try simp only [go_sem, Int.reduceBEq, Int.reduceBNe, Int.reduceNeg, reduceCtorEq, Nat.reduceEqDiff, Nat.reduceAdd, Nat.reduceLeDiff, Nat.reduceMul, Nat.reduceSub, Int.reduceToNat, Int.reduceLT, Int.reduceLE, load_w, load_a, store_b, idxS_b, set_blk, new_blk, set_next, new_next, len_s, ldW_c, ldA_c, stB_c, toArr_one, size_one, toList_toArr, size_toArr, List.length_cons, List.length_nil, List.getElem?_cons_zero, List.getElem?_cons_succ, Nat.zero_add, Nat.add_zero, hb12.at_, hb13.at_, q7]
          refine gC.of (Wholes_spec (p := p) ⟨pv, rfl, hp⟩ hl.len) ?_
          rintro wa m14 ⟨hoa, hx14⟩
          have hp := hp.keep hx14
          have hb14 := hb13.keep hx14
          try simp only [go_sem, Int.reduceBEq, Int.reduceBNe, Int.reduceNeg, reduceCtorEq, Nat.reduceEqDiff, Nat.reduceAdd, Nat.reduceLeDiff, Nat.reduceMul, Nat.reduceSub, Int.reduceToNat, Int.reduceLT, Int.reduceLE, load_w, load_a, store_b, idxS_b, set_blk, new_blk, set_next, new_next, len_s, ldW_c, ldA_c, stB_c, toArr_one, size_one, toList_toArr, size_toArr, List.length_cons, List.length_nil, List.getElem?_cons_zero, List.getElem?_cons_succ, Nat.zero_add, Nat.add_zero, hb13.at_, hb14.at_]
          refine gC.of (refWholes_spec (p := p) ⟨pv, rfl, hp⟩ hl.len) ?_
          rintro wb m15 ⟨hob, hx15⟩
          have hp := hp.keep hx15
          have hb15 := hb14.keep hx15
          have hsa := (hoa.keep hx15).sl
          have hsb := hob.sl
          have hwc : (whL p.places (k : Int)).length < 1000000 := Nat.lt_of_le_of_lt whL_le hl.len
          try simp only [go_sem, Int.reduceBEq, Int.reduceBNe, Int.reduceNeg, reduceCtorEq, Nat.reduceEqDiff, Nat.reduceAdd, Nat.reduceLeDiff, Nat.reduceMul, Nat.reduceSub, Int.reduceToNat, Int.reduceLT, Int.reduceLE, load_w, load_a, store_b, idxS_b, set_blk, new_blk, set_next, new_next, len_s, ldW_c, ldA_c, stB_c, toArr_one, size_one, toList_toArr, size_toArr, List.length_cons, List.length_nil, List.getElem?_cons_zero, List.getElem?_cons_succ, Nat.zero_add, Nat.add_zero, hb14.at_, hb15.at_]
          refine gC.of (refSame8_spec hsa hsb hwc hwc) ?_
          rintro _ m_ ⟨rfl, hm_⟩
          replace hm_ := hm_.symm
          subst hm_
          simp only [go_sem, Int.reduceBEq, Int.reduceBNe, Int.reduceNeg, reduceCtorEq, Nat.reduceEqDiff, Nat.reduceAdd, Nat.reduceLeDiff, Nat.reduceMul, Nat.reduceSub, Int.reduceToNat, Int.reduceLT, Int.reduceLE]
          have q8 : decide (whL p.places (k : Int) = whL p.places (k : Int)) = true := by simp
          try simp only [go_sem, Int.reduceBEq, Int.reduceBNe, Int.reduceNeg, reduceCtorEq, Nat.reduceEqDiff, Nat.reduceAdd, Nat.reduceLeDiff, Nat.reduceMul, Nat.reduceSub, Int.reduceToNat, Int.reduceLT, Int.reduceLE, load_w, load_a, store_b, idxS_b, set_blk, new_blk, set_next, new_next, len_s, ldW_c, ldA_c, stB_c, toArr_one, size_one, toList_toArr, size_toArr, List.length_cons, List.length_nil, List.getElem?_cons_zero, List.getElem?_cons_succ, Nat.zero_add, Nat.add_zero, q8]
          refine gC.of (ok_spec R.law16_awake) ?_
          rintro _ m_ ⟨rfl, hm_⟩
          replace hm_ := hm_.symm
          subst hm_
          simp only [go_sem, Int.reduceBEq, Int.reduceBNe, Int.reduceNeg, reduceCtorEq, Nat.reduceEqDiff, Nat.reduceAdd, Nat.reduceLeDiff, Nat.reduceMul, Nat.reduceSub, Int.reduceToNat, Int.reduceLT, Int.reduceLE]
end Go.Am


/- The law PlanTells walks. -/
set_option linter.unusedVariables false
set_option linter.unusedSimpArgs false
namespace Go.Am
open Classical
variable {m : Mem}

theorem RightP.asc {p : PlanD} (h : RightP p) : Asc p.places := by
  intro i j hij hj
  induction j with
  | zero => omega
  | succ j ih =>
    obtain ⟨_, _, g⟩ := h.2.2.2.2.1 (j + 1) hj
    have g := g (by omega)
    simp only [Nat.add_sub_cancel] at g
    by_cases e : i = j
    · subst e; exact g
    · have := ih (by omega) (by omega); omega

theorem findP_pcs {p : PlanD} (hl : PlanL p) {u : Int} : (findP p.places u).pieces.length < 1000000 := by
  unfold findP
  split
  · exact hl.pcs _ (List.getElem_mem _)
  · show (0 : Nat) < 1000000; omega

theorem ints_Z {l : List Nat} : ints l = intsZ (l.map fun (n : Nat) => (n : Int)) := by simp [ints, intsZ]

set_option maxHeartbeats 4000000 in
theorem PlanTells_spec {p : PlanD} {v : Value} {u : Int} (hv : PlanV m p v) : WC R F.law16_PlanTells [v, .int .i64 u] m fun v m' => v = .bool true := by
  refine WC.of R.law16_PlanTells rfl ?_
  obtain ⟨pv, rfl, hp⟩ := hv
  simp only [RC.law16_PlanTells, planV, go_sem, Int.reduceBEq, Int.reduceBNe, Int.reduceNeg, reduceCtorEq, Nat.reduceEqDiff, Nat.reduceAdd, Nat.reduceLeDiff, Nat.reduceMul, Nat.reduceSub, Int.reduceToNat, Int.reduceLT, Int.reduceLE, hp.one]
  have hx : Ext m (m.new (.cells [.int .i64 p.frame, u32 p.cores, pv] (some 3))) := Ext.new
  have hb : Bk (m.new (.cells [.int .i64 p.frame, u32 p.cores, pv] (some 3))) m.next [.int .i64 p.frame, u32 p.cores, pv] 3 := Bk.new
  generalize m.new (.cells [.int .i64 p.frame, u32 p.cores, pv] (some 3)) = m1 at hx hb ⊢
  have hp := hp.keep hx
  try simp only [go_sem, Int.reduceBEq, Int.reduceBNe, Int.reduceNeg, reduceCtorEq, Nat.reduceEqDiff, Nat.reduceAdd, Nat.reduceLeDiff, Nat.reduceMul, Nat.reduceSub, Int.reduceToNat, Int.reduceLT, Int.reduceLE, load_w, load_a, store_b, idxS_b, set_blk, new_blk, set_next, new_next, len_s, ldW_c, ldA_c, stB_c, toArr_one, size_one, toList_toArr, size_toArr, List.length_cons, List.length_nil, List.getElem?_cons_zero, List.getElem?_cons_succ, Nat.zero_add, Nat.add_zero, hb.at_]
  refine gC.of (Light_spec (p := p) ⟨pv, rfl, hp⟩) ?_
  rintro _ m2 ⟨rfl, hx2⟩
  simp only [go_sem, Int.reduceBEq, Int.reduceBNe, Int.reduceNeg, reduceCtorEq, Nat.reduceEqDiff, Nat.reduceAdd, Nat.reduceLeDiff, Nat.reduceMul, Nat.reduceSub, Int.reduceToNat, Int.reduceLT, Int.reduceLE]
  have hp := hp.keep hx2
  have hb := hb.keep hx2
  try simp only [go_sem, Int.reduceBEq, Int.reduceBNe, Int.reduceNeg, reduceCtorEq, Nat.reduceEqDiff, Nat.reduceAdd, Nat.reduceLeDiff, Nat.reduceMul, Nat.reduceSub, Int.reduceToNat, Int.reduceLT, Int.reduceLE, load_w, load_a, store_b, idxS_b, set_blk, new_blk, set_next, new_next, len_s, ldW_c, ldA_c, stB_c, toArr_one, size_one, toList_toArr, size_toArr, List.length_cons, List.length_nil, List.getElem?_cons_zero, List.getElem?_cons_succ, Nat.zero_add, Nat.add_zero, hb.at_]
  refine gT.of (fun h1' => ?_) (fun h1' => ?_) <;> (have h1 := h1'; try simp only [decide_eq_true_eq, decide_eq_false_iff_not, beq_iff_eq, bne_iff_ne, beq_eq_false_iff_ne, ne_eq, Bool.not_eq_true', Bool.not_eq_false', bne_eq_false_iff_eq, Int.not_lt, Int.not_le] at h1)
  · try simp only [go_sem, Int.reduceBEq, Int.reduceBNe, Int.reduceNeg, reduceCtorEq, Nat.reduceEqDiff, Nat.reduceAdd, Nat.reduceLeDiff, Nat.reduceMul, Nat.reduceSub, Int.reduceToNat, Int.reduceLT, Int.reduceLE, load_w, load_a, store_b, idxS_b, set_blk, new_blk, set_next, new_next, len_s, ldW_c, ldA_c, stB_c, toArr_one, size_one, toList_toArr, size_toArr, List.length_cons, List.length_nil, List.getElem?_cons_zero, List.getElem?_cons_succ, Nat.zero_add, Nat.add_zero, h1']
    refine gC.of (ok_spec R.law16_awake) ?_
    rintro _ m_ ⟨rfl, hm_⟩
    replace hm_ := hm_.symm
    subst hm_
    simp only [go_sem, Int.reduceBEq, Int.reduceBNe, Int.reduceNeg, reduceCtorEq, Nat.reduceEqDiff, Nat.reduceAdd, Nat.reduceLeDiff, Nat.reduceMul, Nat.reduceSub, Int.reduceToNat, Int.reduceLT, Int.reduceLE]
  · have hl := light_l (p := p) (by simpa using h1')
    try simp only [go_sem, Int.reduceBEq, Int.reduceBNe, Int.reduceNeg, reduceCtorEq, Nat.reduceEqDiff, Nat.reduceAdd, Nat.reduceLeDiff, Nat.reduceMul, Nat.reduceSub, Int.reduceToNat, Int.reduceLT, Int.reduceLE, load_w, load_a, store_b, idxS_b, set_blk, new_blk, set_next, new_next, len_s, ldW_c, ldA_c, stB_c, toArr_one, size_one, toList_toArr, size_toArr, List.length_cons, List.length_nil, List.getElem?_cons_zero, List.getElem?_cons_succ, Nat.zero_add, Nat.add_zero, h1', hb.at_]
    refine gC.of (refRight_spec (p := p) ⟨pv, rfl, hp⟩ hl.len hl.pcs) ?_
    rintro _ m3 ⟨rfl, hx3⟩
    simp only [go_sem, Int.reduceBEq, Int.reduceBNe, Int.reduceNeg, reduceCtorEq, Nat.reduceEqDiff, Nat.reduceAdd, Nat.reduceLeDiff, Nat.reduceMul, Nat.reduceSub, Int.reduceToNat, Int.reduceLT, Int.reduceLE]
    have hp := hp.keep hx3
    have hb := hb.keep hx3
    try simp only [go_sem, Int.reduceBEq, Int.reduceBNe, Int.reduceNeg, reduceCtorEq, Nat.reduceEqDiff, Nat.reduceAdd, Nat.reduceLeDiff, Nat.reduceMul, Nat.reduceSub, Int.reduceToNat, Int.reduceLT, Int.reduceLE, load_w, load_a, store_b, idxS_b, set_blk, new_blk, set_next, new_next, len_s, ldW_c, ldA_c, stB_c, toArr_one, size_one, toList_toArr, size_toArr, List.length_cons, List.length_nil, List.getElem?_cons_zero, List.getElem?_cons_succ, Nat.zero_add, Nat.add_zero, hb.at_]
    refine gT.of (fun h2' => ?_) (fun h2' => ?_) <;> (have h2 := h2'; try simp only [decide_eq_true_eq, decide_eq_false_iff_not, beq_iff_eq, bne_iff_ne, beq_eq_false_iff_ne, ne_eq, Bool.not_eq_true', Bool.not_eq_false', bne_eq_false_iff_eq, Int.not_lt, Int.not_le] at h2)
    · try simp only [go_sem, Int.reduceBEq, Int.reduceBNe, Int.reduceNeg, reduceCtorEq, Nat.reduceEqDiff, Nat.reduceAdd, Nat.reduceLeDiff, Nat.reduceMul, Nat.reduceSub, Int.reduceToNat, Int.reduceLT, Int.reduceLE, load_w, load_a, store_b, idxS_b, set_blk, new_blk, set_next, new_next, len_s, ldW_c, ldA_c, stB_c, toArr_one, size_one, toList_toArr, size_toArr, List.length_cons, List.length_nil, List.getElem?_cons_zero, List.getElem?_cons_succ, Nat.zero_add, Nat.add_zero, h2']
      refine gC.of (ok_spec R.law16_awake) ?_
      rintro _ m_ ⟨rfl, hm_⟩
      replace hm_ := hm_.symm
      subst hm_
      simp only [go_sem, Int.reduceBEq, Int.reduceBNe, Int.reduceNeg, reduceCtorEq, Nat.reduceEqDiff, Nat.reduceAdd, Nat.reduceLeDiff, Nat.reduceMul, Nat.reduceSub, Int.reduceToNat, Int.reduceLT, Int.reduceLE]
    · have hR : RightP p := by simpa using h2'
      have ha := hR.asc
      have hfl := findP_pcs hl (u := u)
      try simp only [go_sem, Int.reduceBEq, Int.reduceBNe, Int.reduceNeg, reduceCtorEq, Nat.reduceEqDiff, Nat.reduceAdd, Nat.reduceLeDiff, Nat.reduceMul, Nat.reduceSub, Int.reduceToNat, Int.reduceLT, Int.reduceLE, load_w, load_a, store_b, idxS_b, set_blk, new_blk, set_next, new_next, len_s, ldW_c, ldA_c, stB_c, toArr_one, size_one, toList_toArr, size_toArr, List.length_cons, List.length_nil, List.getElem?_cons_zero, List.getElem?_cons_succ, Nat.zero_add, Nat.add_zero, h2', hb.at_]
      refine gC.of (Find_spec (p := p) (u := u) ⟨pv, rfl, hp⟩ hl ha) ?_
      rintro _ m4 ⟨w, rfl, ⟨qv, rfl, hq⟩, hx4⟩
      have hp := hp.keep hx4
      have hb := hb.keep hx4
      have hbn := hb.ne
      generalize hfx : findP p.places u = x at *
      simp only [plV]
      try simp only [go_sem, Int.reduceBEq, Int.reduceBNe, Int.reduceNeg, reduceCtorEq, Nat.reduceEqDiff, Nat.reduceAdd, Nat.reduceLeDiff, Nat.reduceMul, Nat.reduceSub, Int.reduceToNat, Int.reduceLT, Int.reduceLE, load_w, load_a, store_b, idxS_b, set_blk, new_blk, set_next, new_next, len_s, ldW_c, ldA_c, stB_c, toArr_one, size_one, toList_toArr, size_toArr, List.length_cons, List.length_nil, List.getElem?_cons_zero, List.getElem?_cons_succ, Nat.zero_add, Nat.add_zero, aExt0, aExt1, hq.one, hb.at_, hbn]
      have hx5 : Ext m4 (m4.new (.cells [.int .i64 x.unit, .int .i64 x.share, .int .i64 x.core, qv] (some 4))) := Ext.new
      have hc : Bk (m4.new (.cells [.int .i64 x.unit, .int .i64 x.share, .int .i64 x.core, qv] (some 4))) m4.next [.int .i64 x.unit, .int .i64 x.share, .int .i64 x.core, qv] 4 := Bk.new
      generalize m4.new (.cells [.int .i64 x.unit, .int .i64 x.share, .int .i64 x.core, qv] (some 4)) = m5 at hx5 hc ⊢
      have hp := hp.keep hx5
      have hb := hb.keep hx5
      have hq := hq.keep hx5
      try simp only [go_sem, Int.reduceBEq, Int.reduceBNe, Int.reduceNeg, reduceCtorEq, Nat.reduceEqDiff, Nat.reduceAdd, Nat.reduceLeDiff, Nat.reduceMul, Nat.reduceSub, Int.reduceToNat, Int.reduceLT, Int.reduceLE, load_w, load_a, store_b, idxS_b, set_blk, new_blk, set_next, new_next, len_s, ldW_c, ldA_c, stB_c, toArr_one, size_one, toList_toArr, size_toArr, List.length_cons, List.length_nil, List.getElem?_cons_zero, List.getElem?_cons_succ, Nat.zero_add, Nat.add_zero, hb.at_]
      refine gC.of (refFind_spec (p := p) (u := u) ⟨pv, rfl, hp⟩ hl ha) ?_
      rintro _ m6 ⟨w, rfl, hw, hx6⟩
      rw [hfx] at hw
      obtain ⟨qw, rfl, hqw⟩ := hw
      have hp := hp.keep hx6
      have hb := hb.keep hx6
      have hq := hq.keep hx6
      have hc := hc.keep hx6
      have hbn := hb.ne
      have hcn := hc.ne
      simp only [plV]
      try simp only [go_sem, Int.reduceBEq, Int.reduceBNe, Int.reduceNeg, reduceCtorEq, Nat.reduceEqDiff, Nat.reduceAdd, Nat.reduceLeDiff, Nat.reduceMul, Nat.reduceSub, Int.reduceToNat, Int.reduceLT, Int.reduceLE, load_w, load_a, store_b, idxS_b, set_blk, new_blk, set_next, new_next, len_s, ldW_c, ldA_c, stB_c, toArr_one, size_one, toList_toArr, size_toArr, List.length_cons, List.length_nil, List.getElem?_cons_zero, List.getElem?_cons_succ, Nat.zero_add, Nat.add_zero, aExt0, aExt1, hqw.one, hb.at_, hc.at_, hbn, hcn]
      have hx7 : Ext m6 (m6.new (.cells [.int .i64 x.unit, .int .i64 x.share, .int .i64 x.core, qw] (some 4))) := Ext.new
      have hd : Bk (m6.new (.cells [.int .i64 x.unit, .int .i64 x.share, .int .i64 x.core, qw] (some 4))) m6.next [.int .i64 x.unit, .int .i64 x.share, .int .i64 x.core, qw] 4 := Bk.new
      generalize m6.new (.cells [.int .i64 x.unit, .int .i64 x.share, .int .i64 x.core, qw] (some 4)) = m7 at hx7 hd ⊢
      have hp := hp.keep hx7
      have hb7 := hb.keep hx7
      have hq := hq.keep hx7
      have hqw := hqw.keep hx7
      have hc7 := hc.keep hx7
      try simp only [go_sem, Int.reduceBEq, Int.reduceBNe, Int.reduceNeg, reduceCtorEq, Nat.reduceEqDiff, Nat.reduceAdd, Nat.reduceLeDiff, Nat.reduceMul, Nat.reduceSub, Int.reduceToNat, Int.reduceLT, Int.reduceLE, load_w, load_a, store_b, idxS_b, set_blk, new_blk, set_next, new_next, len_s, ldW_c, ldA_c, stB_c, toArr_one, size_one, toList_toArr, size_toArr, List.length_cons, List.length_nil, List.getElem?_cons_zero, List.getElem?_cons_succ, Nat.zero_add, Nat.add_zero, hb7.at_]
      refine gC.of (Cores_spec (p := p) ⟨pv, rfl, hp⟩) ?_
      rintro wa m8 ⟨hoa, hx8⟩
      have hp := hp.keep hx8
      have hb8 := hb7.keep hx8
      have hc8 := hc7.keep hx8
      have hd8 := hd.keep hx8
      try simp only [go_sem, Int.reduceBEq, Int.reduceBNe, Int.reduceNeg, reduceCtorEq, Nat.reduceEqDiff, Nat.reduceAdd, Nat.reduceLeDiff, Nat.reduceMul, Nat.reduceSub, Int.reduceToNat, Int.reduceLT, Int.reduceLE, load_w, load_a, store_b, idxS_b, set_blk, new_blk, set_next, new_next, len_s, ldW_c, ldA_c, stB_c, toArr_one, size_one, toList_toArr, size_toArr, List.length_cons, List.length_nil, List.getElem?_cons_zero, List.getElem?_cons_succ, Nat.zero_add, Nat.add_zero, hb7.at_, hb8.at_]
      refine gC.of (refCores_spec (p := p) ⟨pv, rfl, hp⟩) ?_
      rintro wb m9 ⟨hob, hx9⟩
      have hp := hp.keep hx9
      have hb9 := hb8.keep hx9
      have hc9 := hc8.keep hx9
      have hd9 := hd8.keep hx9
      try simp only [go_sem, Int.reduceBEq, Int.reduceBNe, Int.reduceNeg, reduceCtorEq, Nat.reduceEqDiff, Nat.reduceAdd, Nat.reduceLeDiff, Nat.reduceMul, Nat.reduceSub, Int.reduceToNat, Int.reduceLT, Int.reduceLE, load_w, load_a, store_b, idxS_b, set_blk, new_blk, set_next, new_next, len_s, ldW_c, ldA_c, stB_c, toArr_one, size_one, toList_toArr, size_toArr, List.length_cons, List.length_nil, List.getElem?_cons_zero, List.getElem?_cons_succ, Nat.zero_add, Nat.add_zero, hb8.at_, hb9.at_]
      have hlen := csP_len (p := p) (n := 16)
      have sa : Sl m9 1 ((csP p 16).map fun (n : Nat) => (n : Int)).length (intsZ ((csP p 16).map fun (n : Nat) => (n : Int))) wa := by
        rw [← ints_Z, List.length_map]; exact (hoa.keep hx9).sl
      have sb : Sl m9 1 ((csP p 16).map fun (n : Nat) => (n : Int)).length (intsZ ((csP p 16).map fun (n : Nat) => (n : Int))) wb := by
        rw [← ints_Z, List.length_map]; exact hob.sl
      have hl16 : ((csP p 16).map fun (n : Nat) => (n : Int)).length < 1000000 := by rw [List.length_map]; omega
      refine gC.of (ref03_Same_spec sa sb hl16 hl16) ?_
      rintro _ m_ ⟨rfl, hm_⟩
      replace hm_ := hm_.symm
      subst hm_
      simp only [go_sem, Int.reduceBEq, Int.reduceBNe, Int.reduceNeg, reduceCtorEq, Nat.reduceEqDiff, Nat.reduceAdd, Nat.reduceLeDiff, Nat.reduceMul, Nat.reduceSub, Int.reduceToNat, Int.reduceLT, Int.reduceLE]
      have d1 : ∀ l : List Int, decide (l = l) = true := fun l => by simp
      try simp only [go_sem, Int.reduceBEq, Int.reduceBNe, Int.reduceNeg, reduceCtorEq, Nat.reduceEqDiff, Nat.reduceAdd, Nat.reduceLeDiff, Nat.reduceMul, Nat.reduceSub, Int.reduceToNat, Int.reduceLT, Int.reduceLE, load_w, load_a, store_b, idxS_b, set_blk, new_blk, set_next, new_next, len_s, ldW_c, ldA_c, stB_c, toArr_one, size_one, toList_toArr, size_toArr, List.length_cons, List.length_nil, List.getElem?_cons_zero, List.getElem?_cons_succ, Nat.zero_add, Nat.add_zero, d1, hb9.at_]
      refine gC.of (Wants_spec (p := p) ⟨pv, rfl, hp⟩ hl.len) ?_
      rintro wc m10 ⟨hoc, hx10⟩
      have hp := hp.keep hx10
      have hb10 := hb9.keep hx10
      have hc10 := hc9.keep hx10
      have hd10 := hd9.keep hx10
      try simp only [go_sem, Int.reduceBEq, Int.reduceBNe, Int.reduceNeg, reduceCtorEq, Nat.reduceEqDiff, Nat.reduceAdd, Nat.reduceLeDiff, Nat.reduceMul, Nat.reduceSub, Int.reduceToNat, Int.reduceLT, Int.reduceLE, load_w, load_a, store_b, idxS_b, set_blk, new_blk, set_next, new_next, len_s, ldW_c, ldA_c, stB_c, toArr_one, size_one, toList_toArr, size_toArr, List.length_cons, List.length_nil, List.getElem?_cons_zero, List.getElem?_cons_succ, Nat.zero_add, Nat.add_zero, d1, hb9.at_, hb10.at_]
      refine gC.of (refWants_spec (p := p) ⟨pv, rfl, hp⟩ hl.len) ?_
      rintro wd m11 ⟨hod, hx11⟩
      have hp := hp.keep hx11
      have hb11 := hb10.keep hx11
      have hc11 := hc10.keep hx11
      have hd11 := hd10.keep hx11
      have hwl : (wtsL p.places).length < 1000000 := by simpa [wtsL] using hl.len
      try simp only [go_sem, Int.reduceBEq, Int.reduceBNe, Int.reduceNeg, reduceCtorEq, Nat.reduceEqDiff, Nat.reduceAdd, Nat.reduceLeDiff, Nat.reduceMul, Nat.reduceSub, Int.reduceToNat, Int.reduceLT, Int.reduceLE, load_w, load_a, store_b, idxS_b, set_blk, new_blk, set_next, new_next, len_s, ldW_c, ldA_c, stB_c, toArr_one, size_one, toList_toArr, size_toArr, List.length_cons, List.length_nil, List.getElem?_cons_zero, List.getElem?_cons_succ, Nat.zero_add, Nat.add_zero, d1, hb10.at_, hb11.at_]
      refine gC.of (refSame8_spec (hoc.keep hx11).sl hod.sl hwl hwl) ?_
      rintro _ m_ ⟨rfl, hm_⟩
      replace hm_ := hm_.symm
      subst hm_
      simp only [go_sem, Int.reduceBEq, Int.reduceBNe, Int.reduceNeg, reduceCtorEq, Nat.reduceEqDiff, Nat.reduceAdd, Nat.reduceLeDiff, Nat.reduceMul, Nat.reduceSub, Int.reduceToNat, Int.reduceLT, Int.reduceLE]
      have d2 : ∀ l : List Wt, decide (l = l) = true := fun l => by simp
      try simp only [go_sem, Int.reduceBEq, Int.reduceBNe, Int.reduceNeg, reduceCtorEq, Nat.reduceEqDiff, Nat.reduceAdd, Nat.reduceLeDiff, Nat.reduceMul, Nat.reduceSub, Int.reduceToNat, Int.reduceLT, Int.reduceLE, load_w, load_a, store_b, idxS_b, set_blk, new_blk, set_next, new_next, len_s, ldW_c, ldA_c, stB_c, toArr_one, size_one, toList_toArr, size_toArr, List.length_cons, List.length_nil, List.getElem?_cons_zero, List.getElem?_cons_succ, Nat.zero_add, Nat.add_zero, d1, d2, hb11.at_]
      refine gC.of (Splits_spec (p := p) ⟨pv, rfl, hp⟩ hl.len) ?_
      rintro _ m12 ⟨rfl, hx12⟩
      simp only [go_sem, Int.reduceBEq, Int.reduceBNe, Int.reduceNeg, reduceCtorEq, Nat.reduceEqDiff, Nat.reduceAdd, Nat.reduceLeDiff, Nat.reduceMul, Nat.reduceSub, Int.reduceToNat, Int.reduceLT, Int.reduceLE]
      have hp := hp.keep hx12
      have hb12 := hb11.keep hx12
      have hc12 := hc11.keep hx12
      have hd12 := hd11.keep hx12
      try simp only [go_sem, Int.reduceBEq, Int.reduceBNe, Int.reduceNeg, reduceCtorEq, Nat.reduceEqDiff, Nat.reduceAdd, Nat.reduceLeDiff, Nat.reduceMul, Nat.reduceSub, Int.reduceToNat, Int.reduceLT, Int.reduceLE, load_w, load_a, store_b, idxS_b, set_blk, new_blk, set_next, new_next, len_s, ldW_c, ldA_c, stB_c, toArr_one, size_one, toList_toArr, size_toArr, List.length_cons, List.length_nil, List.getElem?_cons_zero, List.getElem?_cons_succ, Nat.zero_add, Nat.add_zero, d1, d2, hb11.at_, hb12.at_]
      refine gC.of (refSplits_spec (p := p) ⟨pv, rfl, hp⟩ hl.len) ?_
      rintro _ m13 ⟨rfl, hx13⟩
      simp only [go_sem, Int.reduceBEq, Int.reduceBNe, Int.reduceNeg, reduceCtorEq, Nat.reduceEqDiff, Nat.reduceAdd, Nat.reduceLeDiff, Nat.reduceMul, Nat.reduceSub, Int.reduceToNat, Int.reduceLT, Int.reduceLE]
      have hb13 := hb12.keep hx13
      have hc13 := hc12.keep hx13
      have hd13 := hd12.keep hx13
      have hall : Ext m7 m13 := hx8.trans (hx9.trans (hx10.trans (hx11.trans (hx12.trans hx13))))
      have hq := hq.keep hall
      have hqw := hqw.keep hall
      try simp only [go_sem, Int.reduceBEq, Int.reduceBNe, Int.reduceNeg, reduceCtorEq, Nat.reduceEqDiff, Nat.reduceAdd, Nat.reduceLeDiff, Nat.reduceMul, Nat.reduceSub, Int.reduceToNat, Int.reduceLT, Int.reduceLE, load_w, load_a, store_b, idxS_b, set_blk, new_blk, set_next, new_next, len_s, ldW_c, ldA_c, stB_c, toArr_one, size_one, toList_toArr, size_toArr, List.length_cons, List.length_nil, List.getElem?_cons_zero, List.getElem?_cons_succ, Nat.zero_add, Nat.add_zero, d1, d2, hb12.at_, hb13.at_, hc13.at_, hd13.at_]
      refine gC.of (refSamePlace_spec (x := x) (y := x) ⟨qv, rfl, hq⟩ ⟨qw, rfl, hqw⟩ hfl hfl) ?_
      rintro _ m14 ⟨rfl, hx14⟩
      simp only [go_sem, Int.reduceBEq, Int.reduceBNe, Int.reduceNeg, reduceCtorEq, Nat.reduceEqDiff, Nat.reduceAdd, Nat.reduceLeDiff, Nat.reduceMul, Nat.reduceSub, Int.reduceToNat, Int.reduceLT, Int.reduceLE]
      have hb14 := hb13.keep hx14
      have hc14 := hc13.keep hx14
      have hd14 := hd13.keep hx14
      have d3 : decide (x = x) = true := by simp
      try simp only [go_sem, Int.reduceBEq, Int.reduceBNe, Int.reduceNeg, reduceCtorEq, Nat.reduceEqDiff, Nat.reduceAdd, Nat.reduceLeDiff, Nat.reduceMul, Nat.reduceSub, Int.reduceToNat, Int.reduceLT, Int.reduceLE, load_w, load_a, store_b, idxS_b, set_blk, new_blk, set_next, new_next, len_s, ldW_c, ldA_c, stB_c, toArr_one, size_one, toList_toArr, size_toArr, List.length_cons, List.length_nil, List.getElem?_cons_zero, List.getElem?_cons_succ, Nat.zero_add, Nat.add_zero, d1, d2, d3, hb13.at_, hb14.at_, hc13.at_, hd13.at_, hc14.at_, hd14.at_]
      refine gC.of (SamePlace_spec (x := x) (y := x) ⟨qv, rfl, hq.keep hx14⟩ ⟨qw, rfl, hqw.keep hx14⟩ hfl hfl) ?_
      rintro _ m15 ⟨rfl, hx15⟩
      simp only [go_sem, Int.reduceBEq, Int.reduceBNe, Int.reduceNeg, reduceCtorEq, Nat.reduceEqDiff, Nat.reduceAdd, Nat.reduceLeDiff, Nat.reduceMul, Nat.reduceSub, Int.reduceToNat, Int.reduceLT, Int.reduceLE]
      have hb15 := hb14.keep hx15
      have hc15 := hc14.keep hx15
      have hd15 := hd14.keep hx15
      try simp only [go_sem, Int.reduceBEq, Int.reduceBNe, Int.reduceNeg, reduceCtorEq, Nat.reduceEqDiff, Nat.reduceAdd, Nat.reduceLeDiff, Nat.reduceMul, Nat.reduceSub, Int.reduceToNat, Int.reduceLT, Int.reduceLE, load_w, load_a, store_b, idxS_b, set_blk, new_blk, set_next, new_next, len_s, ldW_c, ldA_c, stB_c, toArr_one, size_one, toList_toArr, size_toArr, List.length_cons, List.length_nil, List.getElem?_cons_zero, List.getElem?_cons_succ, Nat.zero_add, Nat.add_zero, d1, d2, d3, hb14.at_, hb15.at_, hc14.at_, hd14.at_, hc15.at_, hd15.at_]
      refine gC.of (ok_spec R.law16_awake) ?_
      rintro _ m_ ⟨rfl, hm_⟩
      replace hm_ := hm_.symm
      subst hm_
      simp only [go_sem, Int.reduceBEq, Int.reduceBNe, Int.reduceNeg, reduceCtorEq, Nat.reduceEqDiff, Nat.reduceAdd, Nat.reduceLeDiff, Nat.reduceMul, Nat.reduceSub, Int.reduceToNat, Int.reduceLT, Int.reduceLE]
      try simp only [go_sem, Int.reduceBEq, Int.reduceBNe, Int.reduceNeg, reduceCtorEq, Nat.reduceEqDiff, Nat.reduceAdd, Nat.reduceLeDiff, Nat.reduceMul, Nat.reduceSub, Int.reduceToNat, Int.reduceLT, Int.reduceLE, load_w, load_a, store_b, idxS_b, set_blk, new_blk, set_next, new_next, len_s, ldW_c, ldA_c, stB_c, toArr_one, size_one, toList_toArr, size_toArr, List.length_cons, List.length_nil, List.getElem?_cons_zero, List.getElem?_cons_succ, Nat.zero_add, Nat.add_zero]
end Go.Am


/- The law PlanOwn. -/
set_option linter.unusedVariables false
set_option linter.unusedSimpArgs false
namespace Go.Am
open Classical
variable {m : Mem}

set_option maxHeartbeats 4000000 in
theorem FindO_spec {p : PlanD} {v : Value} {u : Int} (hv : PlanV m p v) (hl : PlanL p) (ha : Asc p.places) :
    WC R F.plan_Find [v, .int .i64 u] m fun r m' => ∃ qv, r = .tuple #[.agg (plV (findP p.places u) qv).toArray, .bool (decide (hasU p.places u))] ∧ Own m m' 2 (findP p.places u).pieces.length ((findP p.places u).pieces.flatMap pcV) qv ∧ Ext m m' := by
  refine WC.of R.plan_Find rfl ?_
  obtain ⟨pv, rfl, hp⟩ := hv
  simp only [RC.plan_Find, planV, go_sem, Int.reduceBEq, Int.reduceBNe, Int.reduceNeg, reduceCtorEq, Nat.reduceEqDiff, Nat.reduceAdd, Nat.reduceLeDiff, Nat.reduceMul, Nat.reduceSub, Int.reduceToNat, Int.reduceLT, Int.reduceLE, hp.one]
  have hx : Ext m (m.new (.cells [.int .i64 p.frame, u32 p.cores, pv] (some 3))) := Ext.new
  have hb : Bk (m.new (.cells [.int .i64 p.frame, u32 p.cores, pv] (some 3))) m.next [.int .i64 p.frame, u32 p.cores, pv] 3 := Bk.new
  generalize m.new (.cells [.int .i64 p.frame, u32 p.cores, pv] (some 3)) = m1 at hx hb ⊢
  have hbn := hb.ne
  try simp only [go_sem, Int.reduceBEq, Int.reduceBNe, Int.reduceNeg, reduceCtorEq, Nat.reduceEqDiff, Nat.reduceAdd, Nat.reduceLeDiff, Nat.reduceMul, Nat.reduceSub, Int.reduceToNat, Int.reduceLT, Int.reduceLE, load_w, load_a, store_b, idxS_b, set_blk, new_blk, set_next, new_next, len_s, ldW_c, ldA_c, stB_c, toArr_one, size_one, toList_toArr, size_toArr, List.length_cons, List.length_nil, List.getElem?_cons_zero, List.getElem?_cons_succ, Nat.zero_add, Nat.add_zero, hb.at_, hbn]
  have hx2 : Ext m1 (m1.new (.cells [.int .i64 0, .int .i64 0, .int .i64 0, .slice none 0 0] (some 4))) := Ext.new
  have hb2 : Bk (m1.new (.cells [.int .i64 0, .int .i64 0, .int .i64 0, .slice none 0 0] (some 4))) m1.next [.int .i64 0, .int .i64 0, .int .i64 0, .slice none 0 0] 4 := Bk.new
  have hn2 : (m1.new (.cells [.int .i64 0, .int .i64 0, .int .i64 0, .slice none 0 0] (some 4))).next = m1.next + 1 := rfl
  generalize m1.new (.cells [.int .i64 0, .int .i64 0, .int .i64 0, .slice none 0 0] (some 4)) = m2 at hx2 hb2 hn2 ⊢
  have hp2 := (hp.keep hx).keep hx2
  have hb' := hb.keep hx2
  try simp only [go_sem, Int.reduceBEq, Int.reduceBNe, Int.reduceNeg, reduceCtorEq, Nat.reduceEqDiff, Nat.reduceAdd, Nat.reduceLeDiff, Nat.reduceMul, Nat.reduceSub, Int.reduceToNat, Int.reduceLT, Int.reduceLE, load_w, load_a, store_b, idxS_b, set_blk, new_blk, set_next, new_next, len_s, ldW_c, ldA_c, stB_c, toArr_one, size_one, toList_toArr, size_toArr, List.length_cons, List.length_nil, List.getElem?_cons_zero, List.getElem?_cons_succ, Nat.zero_add, Nat.add_zero, hb'.at_]
  refine gC.of (find_spec (p := p) ⟨pv, rfl, hp2⟩ hl.len ha) ?_
  rintro _ m3 ⟨k, ⟨hk1, hk2, hk3⟩, rfl, hx3⟩
  have hp3 := hp2.keep hx3
  have hb3 := hb'.keep hx3
  have hr3 := hb2.keep hx3
  try simp only [go_sem, Int.reduceBEq, Int.reduceBNe, Int.reduceNeg, reduceCtorEq, Nat.reduceEqDiff, Nat.reduceAdd, Nat.reduceLeDiff, Nat.reduceMul, Nat.reduceSub, Int.reduceToNat, Int.reduceLT, Int.reduceLE, load_w, load_a, store_b, idxS_b, set_blk, new_blk, set_next, new_next, len_s, ldW_c, ldA_c, stB_c, toArr_one, size_one, toList_toArr, size_toArr, List.length_cons, List.length_nil, List.getElem?_cons_zero, List.getElem?_cons_succ, Nat.zero_add, Nat.add_zero, aExt0, aExt1]
  have hiff : isAt p.places u k ↔ hasU p.places u := by
    constructor
    · rintro ⟨h, e⟩; exact ⟨k, h, e⟩
    · rintro ⟨i, h, e⟩
      have : i = k := by
        rcases Nat.lt_trichotomy i k with g | g | g
        · have := hk2 i h g; omega
        · exact g
        · have h1 := hk3 k (by omega) (Nat.le_refl _)
          have := ha k i g h
          omega
      subst this; exact ⟨h, e⟩
  refine gT.of (fun h1' => ?_) (fun h1' => ?_) <;> (have h1 := h1'; try simp only [decide_eq_true_eq, decide_eq_false_iff_not, beq_iff_eq, bne_iff_ne, beq_eq_false_iff_ne, ne_eq, Bool.not_eq_true', Bool.not_eq_false', bne_eq_false_iff_eq, Int.not_lt, Int.not_le] at h1)
  · have hno : ¬ isAt p.places u k := by simpa using h1'
    have hnu : ¬ hasU p.places u := fun h => hno (hiff.2 h)
    have hX : Ext m1 m3 := hx2.trans hx3
    try simp only [go_sem, Int.reduceBEq, Int.reduceBNe, Int.reduceNeg, reduceCtorEq, Nat.reduceEqDiff, Nat.reduceAdd, Nat.reduceLeDiff, Nat.reduceMul, Nat.reduceSub, Int.reduceToNat, Int.reduceLT, Int.reduceLE, load_w, load_a, store_b, idxS_b, set_blk, new_blk, set_next, new_next, len_s, ldW_c, ldA_c, stB_c, toArr_one, size_one, toList_toArr, size_toArr, List.length_cons, List.length_nil, List.getElem?_cons_zero, List.getElem?_cons_succ, Nat.zero_add, Nat.add_zero, h1', hr3.at_]
    refine ⟨.slice none 0 0, by rw [decide_eq_false hnu, findP_not hnu]; rfl, ?_, hx.trans (hX.set (Nat.le_refl _))⟩
    rw [findP_not hnu]
    exact .nil rfl rfl
  · have hyes : isAt p.places u k := by simpa using h1'
    obtain ⟨hkl, hku⟩ := hyes
    try simp only [go_sem, Int.reduceBEq, Int.reduceBNe, Int.reduceNeg, reduceCtorEq, Nat.reduceEqDiff, Nat.reduceAdd, Nat.reduceLeDiff, Nat.reduceMul, Nat.reduceSub, Int.reduceToNat, Int.reduceLT, Int.reduceLE, load_w, load_a, store_b, idxS_b, set_blk, new_blk, set_next, new_next, len_s, ldW_c, ldA_c, stB_c, toArr_one, size_one, toList_toArr, size_toArr, List.length_cons, List.length_nil, List.getElem?_cons_zero, List.getElem?_cons_succ, Nat.zero_add, Nat.add_zero, h1', hb3.at_]
    obtain ⟨b, o, qv, a1, a2, a3, a4, a5⟩ := hp3.elem hkl
    have hfx : findP p.places u = p.places[k] := findP_at ha hkl hku
    have hhas : hasU p.places u := ⟨k, hkl, hku⟩
    have hpl := hl.pcs _ (List.getElem_mem hkl)
    generalize p.places[k] = x at *
    simp only [plV] at a2
    try simp only [go_sem, Int.reduceBEq, Int.reduceBNe, Int.reduceNeg, reduceCtorEq, Nat.reduceEqDiff, Nat.reduceAdd, Nat.reduceLeDiff, Nat.reduceMul, Nat.reduceSub, Int.reduceToNat, Int.reduceLT, Int.reduceLE, load_w, load_a, store_b, idxS_b, set_blk, new_blk, set_next, new_next, len_s, ldW_c, ldA_c, stB_c, toArr_one, size_one, toList_toArr, size_toArr, List.length_cons, List.length_nil, List.getElem?_cons_zero, List.getElem?_cons_succ, Nat.zero_add, Nat.add_zero, a1, a2, a4.one]
    have hx4 : Ext m3 (m3.new (.cells [.int .i64 x.unit, .int .i64 x.share, .int .i64 x.core, qv] (some 4))) := Ext.new
    have hb4 : Bk (m3.new (.cells [.int .i64 x.unit, .int .i64 x.share, .int .i64 x.core, qv] (some 4))) m3.next [.int .i64 x.unit, .int .i64 x.share, .int .i64 x.core, qv] 4 := Bk.new
    generalize m3.new (.cells [.int .i64 x.unit, .int .i64 x.share, .int .i64 x.core, qv] (some 4)) = m4 at hx4 hb4 ⊢
    try simp only [go_sem, Int.reduceBEq, Int.reduceBNe, Int.reduceNeg, reduceCtorEq, Nat.reduceEqDiff, Nat.reduceAdd, Nat.reduceLeDiff, Nat.reduceMul, Nat.reduceSub, Int.reduceToNat, Int.reduceLT, Int.reduceLE, load_w, load_a, store_b, idxS_b, set_blk, new_blk, set_next, new_next, len_s, ldW_c, ldA_c, stB_c, toArr_one, size_one, toList_toArr, size_toArr, List.length_cons, List.length_nil, List.getElem?_cons_zero, List.getElem?_cons_succ, Nat.zero_add, Nat.add_zero, hb4.at_]
    refine gC.of (Clone_spec (a4.keep hx4) hpl) ?_
    rintro w m5 ⟨ho, hx5⟩
    have hb5 := hb4.keep hx5
    have hr5 := (hr3.keep hx4).keep hx5
    have hne : m1.next ≠ m3.next := by have := hr3.lt; omega
    have hw : ∃ a n c, w = .slice a n c := by cases ho <;> exact ⟨_, _, _, rfl⟩
    have hw1 := ho.sl.one
    obtain ⟨wa, wn, wc, rfl⟩ := hw
    have hne' : (m1.next = m3.next) = False := eq_false hne
    try simp only [go_sem, Int.reduceBEq, Int.reduceBNe, Int.reduceNeg, reduceCtorEq, Nat.reduceEqDiff, Nat.reduceAdd, Nat.reduceLeDiff, Nat.reduceMul, Nat.reduceSub, Int.reduceToNat, Int.reduceLT, Int.reduceLE, load_w, load_a, store_b, idxS_b, set_blk, new_blk, set_next, new_next, len_s, ldW_c, ldA_c, stB_c, toArr_one, size_one, toList_toArr, size_toArr, List.length_cons, List.length_nil, List.getElem?_cons_zero, List.getElem?_cons_succ, Nat.zero_add, Nat.add_zero, hb5.at_, hw1, hne', hr5.at_]
    have hle : m1.next ≤ m3.next := by have := hr3.lt; omega
    have hge := ho.ge
    have hX := (((hx.trans hx2).trans hx3).trans hx4)
    have hU : ∀ {m'}, Upd m5 m' [m1.next, m3.next] → Own m m' 2 x.pieces.length (x.pieces.flatMap pcV) (.slice wa wn wc) ∧ Ext m m' := fun hU =>
      ⟨(ho.weak hX).updq hU (fun b hb => by have := hge b hb; have := hb4.lt; have := hr3.lt; simp; omega), hU.ext_of (hX.trans hx5) (by have := hx.next; simp; omega)⟩
    rw [hfx]
    refine ⟨.slice wa wn wc, by rw [decide_eq_true hhas]; rfl, hU ?_⟩
    exact (Upd.set (fp := [m1.next, m3.next]) (by simp)).trans (Upd.set (fp := [m1.next, m3.next]) (by simp)) (fun _ h => h) (fun _ h => .inl h)

theorem eraseIdx_get {α : Type} {l : List α} {j t : Nat} (ht : t < (l.eraseIdx j).length) : (l.eraseIdx j)[t] = if h : t < j then l[t]'(by have := List.length_eraseIdx_le l j; omega) else l[t + 1]'(by rw [List.length_eraseIdx] at ht; split at ht <;> omega) := by
  rw [List.getElem_eraseIdx]
theorem reins {P : List Pl} {j k : Nat} (ha : Asc P) (hj : j < P.length) (hk : k ≤ (dropU P P[j].unit).length) (h1 : ∀ t (h : t < (dropU P P[j].unit).length), t < k → (dropU P P[j].unit)[t].unit < P[j].unit) (h2 : ∀ h : k < (dropU P P[j].unit).length, ¬ (dropU P P[j].unit)[k].unit < P[j].unit) :
    (dropU P P[j].unit).take k ++ P[j] :: (dropU P P[j].unit).drop k = P := by
  have hd := dropU_at ha hj rfl
  have hlen : (P.eraseIdx j).length = P.length - 1 := by rw [List.length_eraseIdx, if_pos hj]
  generalize hu : P[j].unit = u at *
  rw [hd] at hk ⊢
  have h1' : ∀ t (h : t < (P.eraseIdx j).length), t < k → (P.eraseIdx j)[t].unit < u := fun t h ht => by have := h1 t (by rw [hd]; exact h) ht; simpa only [hd] using this
  have h2' : ∀ h : k < (P.eraseIdx j).length, ¬ (P.eraseIdx j)[k].unit < u := fun h => by have := h2 (by rw [hd]; exact h); simpa only [hd] using this
  have hkj : k = j := by
    rcases Nat.lt_trichotomy k j with g | g | g
    · have q := h2' (by omega)
      rw [eraseIdx_get, dif_pos g] at q
      have := ha k j g hj
      omega
    · exact g
    · have q := h1' j (by omega) g
      rw [eraseIdx_get, dif_neg (by omega)] at q
      have := ha j (j + 1) (by omega) (by omega)
      omega
  subst hkj
  rw [List.eraseIdx_eq_take_drop_succ, List.take_left' (by rw [List.length_take]; omega), List.drop_left' (by rw [List.length_take]; omega), ← List.drop_eq_getElem_cons hj, List.take_append_drop]
theorem dropE_idem {l : List PE} {u : Int} : dropE (dropE l u) u = dropE l u := by
  unfold dropE
  rw [List.filter_filter]; simp

/-- A copy where nothing was, in a drawn region. -/
theorem app0_at {m0 m : Mem} {u by_ q1 q2 k : Nat} {xs : List Value} {x : Value} (hb : m.blk q1 = some (.cells [] (some u))) (hs : Sl m u k xs x) (h1 : oneCells xs = true) (hby : k * by_ ≤ 2 ^ 47) (hn : k < 2 ^ 62) (g1 : m0.next ≤ q1) (g2 : q1 < m.next) (g3 : m0.next ≤ q2) (g4 : q2 < m.next) (hne : q1 ≠ q2) :
    ∃ v' m', aApp (some q2) u by_ m (.slice (some ⟨q1, 0, none⟩) 0 0) x = some (v', m') ∧ Own m0 m' u k xs v' ∧ Upd m m' [q1, q2] ∧ ∀ b ∈ vb v', b = q1 ∨ b = q2 := by
  obtain ⟨hsrc, hlen⟩ := hs.src
  have hxl := hs.length
  by_cases hk : k = 0
  · subst hk
    have hx0 : xs = [] := List.eq_nil_of_length_eq_zero (by omega)
    subst hx0
    refine ⟨.slice (some ⟨q1, 0, none⟩) 0 0, m, ?_, .at (all := []) g1 g2 (Nat.le_refl _) hb (by simp) (by simp) rfl, Upd.refl _ _, by simp [vb]⟩
    simp only [aApp, hlen, Option.bind_some, hsrc, if_true]
    rw [if_pos ⟨Nat.le_refl _, by rw [hb]; rfl⟩]
  · refine ⟨.slice (some ⟨q2, 0, none⟩) k k, (m.set q1 none).set q2 (some (.cells xs (some u))), ?_, .at (all := xs) g3 (by simpa [Mem.set] using g4) (Nat.le_refl _) (by simp [Mem.set]) hxl (by rw [← hxl, List.take_length]) h1, (Upd.set (fp := [q1, q2]) (by simp)).trans (Upd.set (fp := [q1, q2]) (by simp)) (fun _ h => h) (fun _ h => .inl h), by simp [vb]⟩
    simp only [aApp, hlen, Option.bind_some, hsrc, hk, if_false, Nat.zero_add]
    rw [if_neg (by omega), hb]
    simp only [List.drop_nil, List.take_nil, Nat.zero_mul, List.length_nil, List.nil_append]
    rw [if_pos ⟨by simpa using hby, by simpa using hn, h1, by first | rfl | trivial, Nat.le_refl _, Nat.le_refl _, .inr ⟨by first | rfl | trivial, .inr (by first | rfl | trivial)⟩⟩]
    simp [place]

/-- A store into one's own row changes its block alone. -/
theorem Own.put_upd {m0 m : Mem} {u n : Nat} {cs : List Value} {v w : Value} (h : Own m0 m u n cs v) {k : IntKind} {i o : Nat} (hi : i < n) (ho : o < u) (hw : w.cells = #[w]) (hone : w.oneCell' = true) :
    ∃ b m', aIdxS u v (.int k i) = some (.pointer (some ⟨b, i * u, none⟩)) ∧ aStore 1 m (.pointer (some ⟨b, i * u + o, none⟩)) w = some m' ∧ Upd m m' (vb v) := by
  cases h with
  | nil h hc => omega
  | @«at» b c all hb hb2 hn hm hl hcs h1 =>
    have hle : i * u + u ≤ n * u := by rw [← Nat.succ_mul]; exact Nat.mul_le_mul_right _ hi
    have hle2 : n * u ≤ c * u := Nat.mul_le_mul_right _ hn
    have hlt : i * u + o < all.length := by omega
    refine ⟨b, m.set b (some (.cells (all.set (i * u + o) w) (some u))), ?_, ?_, Upd.set (by simp [vb])⟩
    · simp only [aIdxS]
      rw [if_pos (by omega), Int.toNat_natCast, Nat.zero_add]
    · simp only [aStore, hw]
      rw [if_pos (by rfl)]
      unfold aWrite
      rw [hm]
      simp only
      rw [if_pos ⟨by simp; omega, by simp [oneCells, hone]⟩, writeL_set hlt]
end Go.Am


/- The law PlanOwn walks. -/
set_option linter.unusedVariables false
set_option linter.unusedSimpArgs false
namespace Go.Am
open Classical
variable {m : Mem}

theorem pcV_flat {l : List Pc} : oneCells (l.flatMap pcV) = true := by
  unfold oneCells
  rw [List.all_eq_true]
  intro x hx
  obtain ⟨y, _, hy⟩ := List.mem_flatMap.1 hx
  simp only [pcV, List.mem_cons, List.not_mem_nil, or_false] at hy
  rcases hy with rfl | rfl <;> rfl

set_option maxHeartbeats 4000000 in
theorem PlanOwn_spec {p : PlanD} {v : Value} {u : Int} (hv : PlanV m p v) : WC R F.law16_PlanOwn [v, .int .i64 u] m fun v m' => v = .bool true := by
  refine WC.of R.law16_PlanOwn rfl ?_
  obtain ⟨pv, rfl, hp⟩ := hv
  simp only [RC.law16_PlanOwn, planV, go_sem, Int.reduceBEq, Int.reduceBNe, Int.reduceNeg, reduceCtorEq, Nat.reduceEqDiff, Nat.reduceAdd, Nat.reduceLeDiff, Nat.reduceMul, Nat.reduceSub, Int.reduceToNat, Int.reduceLT, Int.reduceLE, hp.one]
  have hx : Ext m (m.new (.cells [.int .i64 p.frame, u32 p.cores, pv] (some 3))) := Ext.new
  have hb : Bk (m.new (.cells [.int .i64 p.frame, u32 p.cores, pv] (some 3))) m.next [.int .i64 p.frame, u32 p.cores, pv] 3 := Bk.new
  generalize m.new (.cells [.int .i64 p.frame, u32 p.cores, pv] (some 3)) = m1 at hx hb ⊢
  have hp := hp.keep hx
  try simp only [go_sem, Int.reduceBEq, Int.reduceBNe, Int.reduceNeg, reduceCtorEq, Nat.reduceEqDiff, Nat.reduceAdd, Nat.reduceLeDiff, Nat.reduceMul, Nat.reduceSub, Int.reduceToNat, Int.reduceLT, Int.reduceLE, load_w, load_a, store_b, idxS_b, set_blk, new_blk, set_next, new_next, len_s, ldW_c, ldA_c, stB_c, toArr_one, size_one, toList_toArr, size_toArr, List.length_cons, List.length_nil, List.getElem?_cons_zero, List.getElem?_cons_succ, Nat.zero_add, Nat.add_zero, hb.at_]
  refine gC.of (Light_spec (p := p) ⟨pv, rfl, hp⟩) ?_
  rintro _ m2 ⟨rfl, hx2⟩
  simp only [go_sem, Int.reduceBEq, Int.reduceBNe, Int.reduceNeg, reduceCtorEq, Nat.reduceEqDiff, Nat.reduceAdd, Nat.reduceLeDiff, Nat.reduceMul, Nat.reduceSub, Int.reduceToNat, Int.reduceLT, Int.reduceLE]
  have hp := hp.keep hx2
  have hb := hb.keep hx2
  try simp only [go_sem, Int.reduceBEq, Int.reduceBNe, Int.reduceNeg, reduceCtorEq, Nat.reduceEqDiff, Nat.reduceAdd, Nat.reduceLeDiff, Nat.reduceMul, Nat.reduceSub, Int.reduceToNat, Int.reduceLT, Int.reduceLE, load_w, load_a, store_b, idxS_b, set_blk, new_blk, set_next, new_next, len_s, ldW_c, ldA_c, stB_c, toArr_one, size_one, toList_toArr, size_toArr, List.length_cons, List.length_nil, List.getElem?_cons_zero, List.getElem?_cons_succ, Nat.zero_add, Nat.add_zero, hb.at_]
  by_cases hli : lightP p = true
  · have hl := light_l hli
    have hl6 : p.places.length ≤ 60 := by
      simp only [lightP, Bool.and_eq_true, decide_eq_true_eq] at hli; exact hli.2
    try simp only [go_sem, Int.reduceBEq, Int.reduceBNe, Int.reduceNeg, reduceCtorEq, Nat.reduceEqDiff, Nat.reduceAdd, Nat.reduceLeDiff, Nat.reduceMul, Nat.reduceSub, Int.reduceToNat, Int.reduceLT, Int.reduceLE, load_w, load_a, store_b, idxS_b, set_blk, new_blk, set_next, new_next, len_s, ldW_c, ldA_c, stB_c, toArr_one, size_one, toList_toArr, size_toArr, List.length_cons, List.length_nil, List.getElem?_cons_zero, List.getElem?_cons_succ, Nat.zero_add, Nat.add_zero, hli, hb.at_]
    refine gC.of (refRight_spec (p := p) ⟨pv, rfl, hp⟩ hl.len hl.pcs) ?_
    rintro _ m3 ⟨rfl, hx3⟩
    simp only [go_sem, Int.reduceBEq, Int.reduceBNe, Int.reduceNeg, reduceCtorEq, Nat.reduceEqDiff, Nat.reduceAdd, Nat.reduceLeDiff, Nat.reduceMul, Nat.reduceSub, Int.reduceToNat, Int.reduceLT, Int.reduceLE]
    have hp := hp.keep hx3
    have hb := hb.keep hx3
    by_cases hR : RightP p
    · have ha := hR.asc
      have hfl := findP_pcs hl (u := u)
      try simp only [go_sem, Int.reduceBEq, Int.reduceBNe, Int.reduceNeg, reduceCtorEq, Nat.reduceEqDiff, Nat.reduceAdd, Nat.reduceLeDiff, Nat.reduceMul, Nat.reduceSub, Int.reduceToNat, Int.reduceLT, Int.reduceLE, load_w, load_a, store_b, idxS_b, set_blk, new_blk, set_next, new_next, len_s, ldW_c, ldA_c, stB_c, toArr_one, size_one, toList_toArr, size_toArr, List.length_cons, List.length_nil, List.getElem?_cons_zero, List.getElem?_cons_succ, Nat.zero_add, Nat.add_zero, decide_eq_true hR, hb.at_]
      refine gC.of (FindO_spec (p := p) (u := u) ⟨pv, rfl, hp⟩ hl ha) ?_
      rintro _ m4 ⟨qv, rfl, hq, hx4⟩
      have hp4 := hp.keep hx4
      have hb4 := hb.keep hx4
      have hbn := hb4.ne
      have hqone := hq.sl.one
      obtain ⟨xa, xn, xc, rfl⟩ := slice_of hq
      by_cases hu : hasU p.places u
      · obtain ⟨j, hj, hju⟩ := hu
        have hu : hasU p.places u := ⟨j, hj, hju⟩
        have hfx : findP p.places u = p.places[j] := findP_at ha hj hju
        rw [hfx] at hq hfl ⊢
        have hre := fun k hk h1 h2 => reins (k := k) ha hj hk h1 h2
        rw [hju] at hre
        have hre2 := hre
        generalize p.places[j] = x at *
        subst hju
        simp only [plV]
        try simp only [go_sem, Int.reduceBEq, Int.reduceBNe, Int.reduceNeg, reduceCtorEq, Nat.reduceEqDiff, Nat.reduceAdd, Nat.reduceLeDiff, Nat.reduceMul, Nat.reduceSub, Int.reduceToNat, Int.reduceLT, Int.reduceLE, load_w, load_a, store_b, idxS_b, set_blk, new_blk, set_next, new_next, len_s, ldW_c, ldA_c, stB_c, toArr_one, size_one, toList_toArr, size_toArr, List.length_cons, List.length_nil, List.getElem?_cons_zero, List.getElem?_cons_succ, Nat.zero_add, Nat.add_zero, aExt0, aExt1, hqone, hb4.at_, hbn, decide_eq_true hu]
        obtain ⟨le, hmap, hrow, hpcs⟩ := rowE_of hp
        have hx5 : Ext m4 (m4.new (.cells [.int .i64 x.unit, .int .i64 x.share, .int .i64 x.core, .slice xa xn xc] (some 4))) := Ext.new
        have hc : Bk (m4.new (.cells [.int .i64 x.unit, .int .i64 x.share, .int .i64 x.core, .slice xa xn xc] (some 4))) m4.next [.int .i64 x.unit, .int .i64 x.share, .int .i64 x.core, .slice xa xn xc] 4 := Bk.new
        have hn5 : (m4.new (.cells [.int .i64 x.unit, .int .i64 x.share, .int .i64 x.core, .slice xa xn xc] (some 4))).next = m4.next + 1 := rfl
        generalize m4.new (.cells [.int .i64 x.unit, .int .i64 x.share, .int .i64 x.core, .slice xa xn xc] (some 4)) = m5 at hx5 hc hn5 ⊢
        have hb5 := hb4.keep hx5
        have hle60 : le.length ≤ 60 := by rw [← List.length_map (f := PE.pl), hmap]; exact hl6
        try simp only [go_sem, Int.reduceBEq, Int.reduceBNe, Int.reduceNeg, reduceCtorEq, Nat.reduceEqDiff, Nat.reduceAdd, Nat.reduceLeDiff, Nat.reduceMul, Nat.reduceSub, Int.reduceToNat, Int.reduceLT, Int.reduceLE, load_w, load_a, store_b, idxS_b, set_blk, new_blk, set_next, new_next, len_s, ldW_c, ldA_c, stB_c, toArr_one, size_one, toList_toArr, size_toArr, List.length_cons, List.length_nil, List.getElem?_cons_zero, List.getElem?_cons_succ, Nat.zero_add, Nat.add_zero, hb5.at_, hc.at_]
        refine gC.of (refDrop_spec (u := x.unit) (((hrow.keep hx4).keep hx5).keep Ext.bump) (by omega)) ?_
        rintro _ m6 ⟨lv, rfl, ho, hx6⟩
        have hx56 : Ext m5 m6 := Ext.bump.trans hx6
        have hnx6 : m5.next + 17 ≤ m6.next := hx6.next
        have hk6 : m6.blk m4.next = (m5.bump 17).blk m4.next := hx6.same m4.next (by have := hc.lt; show m4.next < m5.next + 17; omega)
        have hlo := ho.sl.one
        obtain ⟨wa, wn, wc, rfl⟩ := slice_of ho
        try simp only [go_sem, Int.reduceBEq, Int.reduceBNe, Int.reduceNeg, reduceCtorEq, Nat.reduceEqDiff, Nat.reduceAdd, Nat.reduceLeDiff, Nat.reduceMul, Nat.reduceSub, Int.reduceToNat, Int.reduceLT, Int.reduceLE, load_w, load_a, store_b, idxS_b, set_blk, new_blk, set_next, new_next, len_s, ldW_c, ldA_c, stB_c, toArr_one, size_one, toList_toArr, size_toArr, List.length_cons, List.length_nil, List.getElem?_cons_zero, List.getElem?_cons_succ, Nat.zero_add, Nat.add_zero, watchOk_cons, watchOk_nil, blkOf_ptr, hk6, hlo]
        have hgo := ho.ge
        have hlto : ∀ b ∈ vb (Value.slice wa wn wc), b < m6.next := SlLt.vb_iff.1 ho.lt
        have hgq := hq.ge
        have hltq : ∀ b ∈ vb (Value.slice xa xn xc), b < m4.next := SlLt.vb_iff.1 hq.lt
        have hnb : m3.next ≤ m4.next ∧ m5.next = m4.next + 1 ∧ m5.next + 17 ≤ m6.next := ⟨hx4.next, hn5, hnx6⟩
        have hbp : (m5.bump 17).next = m5.next + 17 := rfl
        have hc6 := hc.keep hx56
        have hb6 := hb5.keep hx56
        have hq6 := (hq.keep hx5).keep hx56
        have hU6 : Upd m6 (m6.set (m4.next + 1 + 9) (some (.cells [] (some 2)))) [m4.next + 1 + 9] := Upd.set (by simp)
        have hq1 : (m6.set (m4.next + 1 + 9) (some (.cells [] (some 2)))).blk (m4.next + 1 + 9) = some (.cells [] (some 2)) := by simp [Mem.set]
        have hn6 : (m6.set (m4.next + 1 + 9) (some (.cells [] (some 2)))).next = m6.next := rfl
        generalize m6.set (m4.next + 1 + 9) (some (.cells [] (some 2))) = m7 at hU6 hq1 hn6 ⊢
        have hc7 := hc6.upd hU6 (by simp; omega)
        have hb3l := hb.lt
        have hb7 := hb6.upd hU6 (by simp; omega)
        have hq7 := hq6.updq hU6 (fun b hb => by have := hltq b hb; simp; omega)
        have ho7 := ho.updq hU6 (fun b hb => by have := hgo b hb; simp; omega)
        obtain ⟨v', m8, e1, e2, e3, e4⟩ := app0_at (m0 := m5) (by_ := 16) (q2 := m4.next + 1 + 12) hq1 hq7.sl pcV_flat (by omega) (by omega) (by omega) (by omega) (by omega) (by omega) (by omega)
        have hc8 := hc7.upd e3 (by simp; omega)
        have hb8 := hb7.upd e3 (by simp; omega)
        have hq8 := hq7.updq e3 (fun b hb => by have := hltq b hb; simp; omega)
        have ho8 := ho7.updq e3 (fun b hb => by have := hgo b hb; simp; omega)
        have hk8 : m8.blk m4.next = m7.blk m4.next := e3.same m4.next (by omega) (by simp; omega)
        have hv1 := e2.sl.one
        obtain ⟨ya, yn, yc, rfl⟩ := slice_of e2
        rw [e1, Got.some]
        try simp only [go_sem, Int.reduceBEq, Int.reduceBNe, Int.reduceNeg, reduceCtorEq, Nat.reduceEqDiff, Nat.reduceAdd, Nat.reduceLeDiff, Nat.reduceMul, Nat.reduceSub, Int.reduceToNat, Int.reduceLT, Int.reduceLE, load_w, load_a, store_b, idxS_b, set_blk, new_blk, set_next, new_next, len_s, ldW_c, ldA_c, stB_c, toArr_one, size_one, toList_toArr, size_toArr, List.length_cons, List.length_nil, List.getElem?_cons_zero, List.getElem?_cons_succ, Nat.zero_add, Nat.add_zero, watchOk_cons, watchOk_nil, blkOf_ptr, hk8, hv1]
        have hdl := dropE_len' (l := le) (u := x.unit)
        refine gC.of (refPut_spec (x := ⟨x, .slice ya yn yc, rfl⟩) (f := p.frame) (c := p.cores) ho8.rowE (by omega)) ?_
        rintro _ m9 ⟨lv2, k, rfl, hk, ho9, hx9⟩
        rw [show dropE (dropE le x.unit) (PE.mk x (.slice ya yn yc) rfl).pl.unit = dropE le x.unit from dropE_idem] at hk ho9
        have hLm : ((dropE le x.unit).take k ++ (PE.mk x (.slice ya yn yc) rfl) :: (dropE le x.unit).drop k).map PE.pl = p.places := by
          obtain ⟨k1, k2, k3⟩ := hk
          have hdm : (dropE le x.unit).map PE.pl = dropU p.places x.unit := by rw [dropE_map, hmap]
          have hdn : (dropE le x.unit).length = (dropU p.places x.unit).length := by rw [← hdm, List.length_map]
          have hget : ∀ t (h : t < (dropU p.places x.unit).length), (dropU p.places x.unit)[t] = ((dropE le x.unit)[t]'(by omega)).pl := fun t h => by
            simp only [← hdm, List.getElem_map]
          have := hre k (by omega) (fun t h ht => by rw [hget t h]; exact k2 t (by omega) ht) (fun h => by rw [hget k h]; exact k3 (by omega))
          rw [List.map_append, List.map_cons, List.map_take, List.map_drop, hdm]
          exact this
        have hLp : ∀ e ∈ (dropE le x.unit).take k ++ (PE.mk x (.slice ya yn yc) rfl) :: (dropE le x.unit).drop k, e ∈ le ∨ e = PE.mk x (.slice ya yn yc) rfl := by
          intro e he
          rcases List.mem_append.1 he with he | he
          · exact .inl (List.mem_filter.1 (List.mem_of_mem_take he)).1
          · rcases List.mem_cons.1 he with he | he
            · exact .inr he
            · exact .inl (List.mem_filter.1 (List.mem_of_mem_drop he)).1
        have hLn : (dropE le x.unit).length + 1 = ((dropE le x.unit).take k ++ (PE.mk x (.slice ya yn yc) rfl) :: (dropE le x.unit).drop k).length := by
          have := hk.1; simp; omega
        rw [hLn] at ho9
        clear hLn hk hre
        generalize (dropE le x.unit).take k ++ (PE.mk x (.slice ya yn yc) rfl) :: (dropE le x.unit).drop k = L at *
        have hl2o := ho9.sl.one
        have hge9 := ho9.ge
        have hlt9 := SlLt.vb_iff.1 ho9.lt
        obtain ⟨za, zn, zc, rfl⟩ := slice_of ho9
        have hc9 := hc8.keep hx9
        have hb9 := hb8.keep hx9
        have hq9 := hq8.keep hx9
        have hn8 := e3.next
        have hn9 := hx9.next
        have nq1 : (m4.next = m4.next + 1 + 15) = False := eq_false (by omega)
        have nq2 : (m.next = m4.next + 1 + 15) = False := eq_false (by omega)
        try simp only [go_sem, Int.reduceBEq, Int.reduceBNe, Int.reduceNeg, reduceCtorEq, Nat.reduceEqDiff, Nat.reduceAdd, Nat.reduceLeDiff, Nat.reduceMul, Nat.reduceSub, Int.reduceToNat, Int.reduceLT, Int.reduceLE, load_w, load_a, store_b, idxS_b, set_blk, new_blk, set_next, new_next, len_s, ldW_c, ldA_c, stB_c, toArr_one, size_one, toList_toArr, size_toArr, List.length_cons, List.length_nil, List.getElem?_cons_zero, List.getElem?_cons_succ, Nat.zero_add, Nat.add_zero, hl2o, hb9.at_, hc9.at_, nq1, nq2]
        have hU10 : Upd m9 ((m9.set (m4.next + 1 + 15) (some (.cells [.int .i64 0, u32 0#32, .slice none 0 0] (some 3)))).set (m4.next + 1 + 15) (some (.cells [.int .i64 p.frame, u32 p.cores, .slice za zn zc] (some 3)))) [m4.next + 1 + 15] :=
          (Upd.set (fp := [m4.next + 1 + 15]) (by simp)).trans (Upd.set (fp := [m4.next + 1 + 15]) (by simp)) (fun _ h => h) (fun _ h => .inl h)
        have hd10 : Bk ((m9.set (m4.next + 1 + 15) (some (.cells [.int .i64 0, u32 0#32, .slice none 0 0] (some 3)))).set (m4.next + 1 + 15) (some (.cells [.int .i64 p.frame, u32 p.cores, .slice za zn zc] (some 3)))) (m4.next + 1 + 15) [.int .i64 p.frame, u32 p.cores, .slice za zn zc] 3 := ⟨by simp [Mem.set], by simp [Mem.set]; omega⟩
        generalize (m9.set (m4.next + 1 + 15) (some (.cells [.int .i64 0, u32 0#32, .slice none 0 0] (some 3)))).set (m4.next + 1 + 15) (some (.cells [.int .i64 p.frame, u32 p.cores, .slice za zn zc] (some 3))) = m10 at hU10 hd10 ⊢
        have hc10 := hc9.upd hU10 (by simp; omega)
        have hb10 := hb9.upd hU10 (by simp; omega)
        have hq10 := hq9.updq hU10 (fun b hb => by have := hltq b hb; simp; omega)
        have ho10 := ho9.updq hU10 (fun b hb => by have := hge9 b hb; simp; omega)
        have hx37 : Ext m3 m7 := hU6.ext_of (((hx4.trans hx5)).trans hx56) (by simp; omega)
        have hx38 : Ext m3 m8 := e3.ext_of hx37 (by simp; omega)
        have hx310 : Ext m3 m10 := hU10.ext_of (hx38.trans hx9) (by simp; omega)
        have hy10 : PcV m10 x.pieces (.slice ya yn yc) := (PcV.keep ⟨e2.sl, e2.lt⟩ hx9).upd hU10 (fun b hb => by rcases e4 b hb with h | h <;> (simp; omega))
        refine gC.of (Put_spec (p := p) (x := x) ⟨pv, rfl, hp.keep hx310⟩ hl (by omega) ha ⟨.slice xa xn xc, rfl, hq10.sl, hq10.lt⟩ hfl) ?_
        rintro _ m11 ⟨l3, lv3, k3, rfl, hat3, hl3, hN⟩
        have hl3' : l3.map PE.pl = p.places := by rw [hl3]; exact hre2 k3 hat3.1 hat3.2.1 (fun h hlt => by have := hat3.2.2 k3 h (Nat.le_refl _); omega)
        have hx11 := hN.pls.ext
        have hlo3 := hN.pls.own.sl.one
        have hge3 := hN.pls.own.ge
        have hnw3 := hN.new
        obtain ⟨ta, tn, tc, rfl⟩ := slice_of hN.pls.own
        simp only [planV]
        have hc11 := hc10.keep hx11
        have hcn11 := hc11.ne
        try simp only [go_sem, Int.reduceBEq, Int.reduceBNe, Int.reduceNeg, reduceCtorEq, Nat.reduceEqDiff, Nat.reduceAdd, Nat.reduceLeDiff, Nat.reduceMul, Nat.reduceSub, Int.reduceToNat, Int.reduceLT, Int.reduceLE, load_w, load_a, store_b, idxS_b, set_blk, new_blk, set_next, new_next, len_s, ldW_c, ldA_c, stB_c, toArr_one, size_one, toList_toArr, size_toArr, List.length_cons, List.length_nil, List.getElem?_cons_zero, List.getElem?_cons_succ, Nat.zero_add, Nat.add_zero, hlo3, hc11.at_, hcn11]
        have hx12 : Ext m11 (m11.new (.cells [.int .i64 p.frame, u32 p.cores, .slice ta tn tc] (some 3))) := Ext.new
        have hg12 : Bk (m11.new (.cells [.int .i64 p.frame, u32 p.cores, .slice ta tn tc] (some 3))) m11.next [.int .i64 p.frame, u32 p.cores, .slice ta tn tc] 3 := Bk.new
        generalize m11.new (.cells [.int .i64 p.frame, u32 p.cores, .slice ta tn tc] (some 3)) = m12 at hx12 hg12 ⊢
        have hX := hx11.trans hx12
        have hb12 := hb10.keep hX
        have hc12 := hc10.keep hX
        have hd12 := hd10.keep hX
        have hq12 := hq10.keep hX
        have ho12 := ho10.keep hX
        have hy12 := hy10.keep hX
        have hN12 := hN.keep hx12
        have hx312 := hx310.trans hX
        have hn10 := hx310.next
        have hn11 := hx11.next
        have hn12 := hX.next
        have hd10l := hd10.lt
        have key : ∀ m13, Upd m12 m13 (vb (Value.slice xa xn xc)) → Bk m13 m.next [.int .i64 p.frame, u32 p.cores, pv] 3 ∧ Bk m13 (m4.next + 1 + 15) [.int .i64 p.frame, u32 p.cores, .slice za zn zc] 3 ∧ Bk m13 m11.next [.int .i64 p.frame, u32 p.cores, .slice ta tn tc] 3 ∧ PlsV m13 p.places pv ∧ PlsV m13 p.places (.slice za zn zc) ∧ PlsV m13 p.places (.slice ta tn tc) := by
          intro m13 hU
          have hno : ∀ b, (b < m3.next ∨ m4.next ≤ b) → b ∉ vb (Value.slice xa xn xc) := fun b hb hm => by have := hgq b hm; have := hltq b hm; omega
          have hx313 : Ext m3 m13 := hU.ext_of hx312 hgq
          refine ⟨hb12.upd hU (hno _ (.inl hb3l)), hd12.upd hU (hno _ (.inr (by omega))), hg12.upd hU (hno _ (.inr (by omega))), hp.keep hx313, ?_, ?_⟩
          · have hr := ho12.rowE.upd hU (fun b hb => hno b (.inr (by have := hge9 b hb; omega)))
            rw [← hLm]
            refine hr.pls fun e he => ?_
            rcases hLp e he with h | rfl
            · exact (hpcs e h).keep hx313
            · exact hy12.upd hU (fun b hb => hno b (.inr (by rcases e4 b hb with h | h <;> omega)))
          · rw [← hl3']
            exact ((hN12.weak hx310).pls.updq (fp := vb (Value.slice xa xn xc)) hU (fun b hb => hno b (.inr (by have := hge3 b hb; omega))) (fun e he b hb => hno b (.inr (by have := hnw3 e he b hb; omega))) hgq).pls
        try simp only [go_sem, Int.reduceBEq, Int.reduceBNe, Int.reduceNeg, reduceCtorEq, Nat.reduceEqDiff, Nat.reduceAdd, Nat.reduceLeDiff, Nat.reduceMul, Nat.reduceSub, Int.reduceToNat, Int.reduceLT, Int.reduceLE, load_w, load_a, store_b, idxS_b, set_blk, new_blk, set_next, new_next, len_s, ldW_c, ldA_c, stB_c, toArr_one, size_one, toList_toArr, size_toArr, List.length_cons, List.length_nil, List.getElem?_cons_zero, List.getElem?_cons_succ, Nat.zero_add, Nat.add_zero, hq12.sl.len]
        refine gT.of (fun h9' => ?_) (fun h9' => ?_) <;> (have h9 := h9'; try simp only [decide_eq_true_eq, decide_eq_false_iff_not, beq_iff_eq, bne_iff_ne, beq_eq_false_iff_ne, ne_eq, Bool.not_eq_true', Bool.not_eq_false', bne_eq_false_iff_eq, Int.not_lt, Int.not_le] at h9)
        · have hpos : 0 < x.pieces.length := by
            have hxn := hq.sl.len
            simp [aLen, sliceLen] at hxn
            omega
          obtain ⟨b, m13, s1, s2, s3⟩ := hq12.put_upd (w := u64 0#64) (k := .i64) (i := 0) (o := 1) hpos (by omega) rfl rfl
          have s1' : aIdxS 2 (.slice xa xn xc) (.int .i64 0) = some (.pointer (some ⟨b, 0, none⟩)) := by simpa using s1
          have s2' : aStore 1 m12 (.pointer (some ⟨b, 1, none⟩)) (u64 0#64) = some m13 := by simpa using s2
          obtain ⟨k1, k2, k3, k4, k5, k6⟩ := key m13 s3
          try simp only [go_sem, Int.reduceBEq, Int.reduceBNe, Int.reduceNeg, reduceCtorEq, Nat.reduceEqDiff, Nat.reduceAdd, Nat.reduceLeDiff, Nat.reduceMul, Nat.reduceSub, Int.reduceToNat, Int.reduceLT, Int.reduceLE, load_w, load_a, store_b, idxS_b, set_blk, new_blk, set_next, new_next, len_s, ldW_c, ldA_c, stB_c, toArr_one, size_one, toList_toArr, size_toArr, List.length_cons, List.length_nil, List.getElem?_cons_zero, List.getElem?_cons_succ, Nat.zero_add, Nat.add_zero, h9', hc12.at_, s1', s2']
          try simp only [go_sem, Int.reduceBEq, Int.reduceBNe, Int.reduceNeg, reduceCtorEq, Nat.reduceEqDiff, Nat.reduceAdd, Nat.reduceLeDiff, Nat.reduceMul, Nat.reduceSub, Int.reduceToNat, Int.reduceLT, Int.reduceLE, load_w, load_a, store_b, idxS_b, set_blk, new_blk, set_next, new_next, len_s, ldW_c, ldA_c, stB_c, toArr_one, size_one, toList_toArr, size_toArr, List.length_cons, List.length_nil, List.getElem?_cons_zero, List.getElem?_cons_succ, Nat.zero_add, Nat.add_zero, k1.at_, k2.at_]
          refine gC.of (refSame_spec (p := p) (q := p) ⟨pv, rfl, k4⟩ ⟨_, rfl, k5⟩ hl hl) ?_
          rintro _ m14 ⟨rfl, hx14⟩
          simp only [go_sem, Int.reduceBEq, Int.reduceBNe, Int.reduceNeg, reduceCtorEq, Nat.reduceEqDiff, Nat.reduceAdd, Nat.reduceLeDiff, Nat.reduceMul, Nat.reduceSub, Int.reduceToNat, Int.reduceLT, Int.reduceLE]
          have j2 := k2.keep hx14
          have j3 := k3.keep hx14
          have dd : decide (p = p) = true := by simp
          try simp only [go_sem, Int.reduceBEq, Int.reduceBNe, Int.reduceNeg, reduceCtorEq, Nat.reduceEqDiff, Nat.reduceAdd, Nat.reduceLeDiff, Nat.reduceMul, Nat.reduceSub, Int.reduceToNat, Int.reduceLT, Int.reduceLE, load_w, load_a, store_b, idxS_b, set_blk, new_blk, set_next, new_next, len_s, ldW_c, ldA_c, stB_c, toArr_one, size_one, toList_toArr, size_toArr, List.length_cons, List.length_nil, List.getElem?_cons_zero, List.getElem?_cons_succ, Nat.zero_add, Nat.add_zero, dd, j2.at_, j3.at_]
          refine gC.of (refSame_spec (p := p) (q := p) ⟨_, rfl, k6.keep hx14⟩ ⟨_, rfl, k5.keep hx14⟩ hl hl) ?_
          rintro _ m15 ⟨rfl, hx15⟩
          simp only [go_sem, Int.reduceBEq, Int.reduceBNe, Int.reduceNeg, reduceCtorEq, Nat.reduceEqDiff, Nat.reduceAdd, Nat.reduceLeDiff, Nat.reduceMul, Nat.reduceSub, Int.reduceToNat, Int.reduceLT, Int.reduceLE]
          try simp only [go_sem, Int.reduceBEq, Int.reduceBNe, Int.reduceNeg, reduceCtorEq, Nat.reduceEqDiff, Nat.reduceAdd, Nat.reduceLeDiff, Nat.reduceMul, Nat.reduceSub, Int.reduceToNat, Int.reduceLT, Int.reduceLE, load_w, load_a, store_b, idxS_b, set_blk, new_blk, set_next, new_next, len_s, ldW_c, ldA_c, stB_c, toArr_one, size_one, toList_toArr, size_toArr, List.length_cons, List.length_nil, List.getElem?_cons_zero, List.getElem?_cons_succ, Nat.zero_add, Nat.add_zero, dd]
          refine gC.of (ok_spec R.law16_awake) ?_
          rintro _ m_ ⟨rfl, hm_⟩
          replace hm_ := hm_.symm
          subst hm_
          simp only [go_sem, Int.reduceBEq, Int.reduceBNe, Int.reduceNeg, reduceCtorEq, Nat.reduceEqDiff, Nat.reduceAdd, Nat.reduceLeDiff, Nat.reduceMul, Nat.reduceSub, Int.reduceToNat, Int.reduceLT, Int.reduceLE]
          try simp only [go_sem, Int.reduceBEq, Int.reduceBNe, Int.reduceNeg, reduceCtorEq, Nat.reduceEqDiff, Nat.reduceAdd, Nat.reduceLeDiff, Nat.reduceMul, Nat.reduceSub, Int.reduceToNat, Int.reduceLT, Int.reduceLE, load_w, load_a, store_b, idxS_b, set_blk, new_blk, set_next, new_next, len_s, ldW_c, ldA_c, stB_c, toArr_one, size_one, toList_toArr, size_toArr, List.length_cons, List.length_nil, List.getElem?_cons_zero, List.getElem?_cons_succ, Nat.zero_add, Nat.add_zero]
        · obtain ⟨k1, k2, k3, k4, k5, k6⟩ := key m12 (Upd.refl _ _)
          try simp only [go_sem, Int.reduceBEq, Int.reduceBNe, Int.reduceNeg, reduceCtorEq, Nat.reduceEqDiff, Nat.reduceAdd, Nat.reduceLeDiff, Nat.reduceMul, Nat.reduceSub, Int.reduceToNat, Int.reduceLT, Int.reduceLE, load_w, load_a, store_b, idxS_b, set_blk, new_blk, set_next, new_next, len_s, ldW_c, ldA_c, stB_c, toArr_one, size_one, toList_toArr, size_toArr, List.length_cons, List.length_nil, List.getElem?_cons_zero, List.getElem?_cons_succ, Nat.zero_add, Nat.add_zero, h9']
          try simp only [go_sem, Int.reduceBEq, Int.reduceBNe, Int.reduceNeg, reduceCtorEq, Nat.reduceEqDiff, Nat.reduceAdd, Nat.reduceLeDiff, Nat.reduceMul, Nat.reduceSub, Int.reduceToNat, Int.reduceLT, Int.reduceLE, load_w, load_a, store_b, idxS_b, set_blk, new_blk, set_next, new_next, len_s, ldW_c, ldA_c, stB_c, toArr_one, size_one, toList_toArr, size_toArr, List.length_cons, List.length_nil, List.getElem?_cons_zero, List.getElem?_cons_succ, Nat.zero_add, Nat.add_zero, k1.at_, k2.at_]
          refine gC.of (refSame_spec (p := p) (q := p) ⟨pv, rfl, k4⟩ ⟨_, rfl, k5⟩ hl hl) ?_
          rintro _ m14 ⟨rfl, hx14⟩
          simp only [go_sem, Int.reduceBEq, Int.reduceBNe, Int.reduceNeg, reduceCtorEq, Nat.reduceEqDiff, Nat.reduceAdd, Nat.reduceLeDiff, Nat.reduceMul, Nat.reduceSub, Int.reduceToNat, Int.reduceLT, Int.reduceLE]
          have j2 := k2.keep hx14
          have j3 := k3.keep hx14
          have dd : decide (p = p) = true := by simp
          try simp only [go_sem, Int.reduceBEq, Int.reduceBNe, Int.reduceNeg, reduceCtorEq, Nat.reduceEqDiff, Nat.reduceAdd, Nat.reduceLeDiff, Nat.reduceMul, Nat.reduceSub, Int.reduceToNat, Int.reduceLT, Int.reduceLE, load_w, load_a, store_b, idxS_b, set_blk, new_blk, set_next, new_next, len_s, ldW_c, ldA_c, stB_c, toArr_one, size_one, toList_toArr, size_toArr, List.length_cons, List.length_nil, List.getElem?_cons_zero, List.getElem?_cons_succ, Nat.zero_add, Nat.add_zero, dd, j2.at_, j3.at_]
          refine gC.of (refSame_spec (p := p) (q := p) ⟨_, rfl, k6.keep hx14⟩ ⟨_, rfl, k5.keep hx14⟩ hl hl) ?_
          rintro _ m15 ⟨rfl, hx15⟩
          simp only [go_sem, Int.reduceBEq, Int.reduceBNe, Int.reduceNeg, reduceCtorEq, Nat.reduceEqDiff, Nat.reduceAdd, Nat.reduceLeDiff, Nat.reduceMul, Nat.reduceSub, Int.reduceToNat, Int.reduceLT, Int.reduceLE]
          try simp only [go_sem, Int.reduceBEq, Int.reduceBNe, Int.reduceNeg, reduceCtorEq, Nat.reduceEqDiff, Nat.reduceAdd, Nat.reduceLeDiff, Nat.reduceMul, Nat.reduceSub, Int.reduceToNat, Int.reduceLT, Int.reduceLE, load_w, load_a, store_b, idxS_b, set_blk, new_blk, set_next, new_next, len_s, ldW_c, ldA_c, stB_c, toArr_one, size_one, toList_toArr, size_toArr, List.length_cons, List.length_nil, List.getElem?_cons_zero, List.getElem?_cons_succ, Nat.zero_add, Nat.add_zero, dd]
          refine gC.of (ok_spec R.law16_awake) ?_
          rintro _ m_ ⟨rfl, hm_⟩
          replace hm_ := hm_.symm
          subst hm_
          simp only [go_sem, Int.reduceBEq, Int.reduceBNe, Int.reduceNeg, reduceCtorEq, Nat.reduceEqDiff, Nat.reduceAdd, Nat.reduceLeDiff, Nat.reduceMul, Nat.reduceSub, Int.reduceToNat, Int.reduceLT, Int.reduceLE]
          try simp only [go_sem, Int.reduceBEq, Int.reduceBNe, Int.reduceNeg, reduceCtorEq, Nat.reduceEqDiff, Nat.reduceAdd, Nat.reduceLeDiff, Nat.reduceMul, Nat.reduceSub, Int.reduceToNat, Int.reduceLT, Int.reduceLE, load_w, load_a, store_b, idxS_b, set_blk, new_blk, set_next, new_next, len_s, ldW_c, ldA_c, stB_c, toArr_one, size_one, toList_toArr, size_toArr, List.length_cons, List.length_nil, List.getElem?_cons_zero, List.getElem?_cons_succ, Nat.zero_add, Nat.add_zero]
      · rw [findP_not hu]
        simp only [plV]
        try simp only [go_sem, Int.reduceBEq, Int.reduceBNe, Int.reduceNeg, reduceCtorEq, Nat.reduceEqDiff, Nat.reduceAdd, Nat.reduceLeDiff, Nat.reduceMul, Nat.reduceSub, Int.reduceToNat, Int.reduceLT, Int.reduceLE, load_w, load_a, store_b, idxS_b, set_blk, new_blk, set_next, new_next, len_s, ldW_c, ldA_c, stB_c, toArr_one, size_one, toList_toArr, size_toArr, List.length_cons, List.length_nil, List.getElem?_cons_zero, List.getElem?_cons_succ, Nat.zero_add, Nat.add_zero, aExt0, aExt1, hqone, hb4.at_, hbn, decide_eq_false hu]
        refine gC.of (ok_spec R.law16_awake) ?_
        rintro _ m_ ⟨rfl, hm_⟩
        replace hm_ := hm_.symm
        subst hm_
        simp only [go_sem, Int.reduceBEq, Int.reduceBNe, Int.reduceNeg, reduceCtorEq, Nat.reduceEqDiff, Nat.reduceAdd, Nat.reduceLeDiff, Nat.reduceMul, Nat.reduceSub, Int.reduceToNat, Int.reduceLT, Int.reduceLE]
    · try simp only [go_sem, Int.reduceBEq, Int.reduceBNe, Int.reduceNeg, reduceCtorEq, Nat.reduceEqDiff, Nat.reduceAdd, Nat.reduceLeDiff, Nat.reduceMul, Nat.reduceSub, Int.reduceToNat, Int.reduceLT, Int.reduceLE, load_w, load_a, store_b, idxS_b, set_blk, new_blk, set_next, new_next, len_s, ldW_c, ldA_c, stB_c, toArr_one, size_one, toList_toArr, size_toArr, List.length_cons, List.length_nil, List.getElem?_cons_zero, List.getElem?_cons_succ, Nat.zero_add, Nat.add_zero, decide_eq_false hR]
      refine gC.of (ok_spec R.law16_awake) ?_
      rintro _ m_ ⟨rfl, hm_⟩
      replace hm_ := hm_.symm
      subst hm_
      simp only [go_sem, Int.reduceBEq, Int.reduceBNe, Int.reduceNeg, reduceCtorEq, Nat.reduceEqDiff, Nat.reduceAdd, Nat.reduceLeDiff, Nat.reduceMul, Nat.reduceSub, Int.reduceToNat, Int.reduceLT, Int.reduceLE]
  · try simp only [go_sem, Int.reduceBEq, Int.reduceBNe, Int.reduceNeg, reduceCtorEq, Nat.reduceEqDiff, Nat.reduceAdd, Nat.reduceLeDiff, Nat.reduceMul, Nat.reduceSub, Int.reduceToNat, Int.reduceLT, Int.reduceLE, load_w, load_a, store_b, idxS_b, set_blk, new_blk, set_next, new_next, len_s, ldW_c, ldA_c, stB_c, toArr_one, size_one, toList_toArr, size_toArr, List.length_cons, List.length_nil, List.getElem?_cons_zero, List.getElem?_cons_succ, Nat.zero_add, Nat.add_zero, hli]
    refine gC.of (ok_spec R.law16_awake) ?_
    rintro _ m_ ⟨rfl, hm_⟩
    replace hm_ := hm_.symm
    subst hm_
    simp only [go_sem, Int.reduceBEq, Int.reduceBNe, Int.reduceNeg, reduceCtorEq, Nat.reduceEqDiff, Nat.reduceAdd, Nat.reduceLeDiff, Nat.reduceMul, Nat.reduceSub, Int.reduceToNat, Int.reduceLT, Int.reduceLE]
end Go.Am


/- PlanOwn, of arguments as they are read. -/
set_option linter.unusedVariables false
namespace Go.Am
theorem law16_PlanOwn_walk (m : Mem) (us : List Value) (h : RdAs m [(true, planSh), (false, [.int .i64])] us) : WC R F.law16_PlanOwn us m fun v _ => v = .bool true := by
  obtain ⟨_, _, rfl, h1, h⟩ := h.one; obtain ⟨_, _, rfl, h2, h⟩ := h.one; cases h.none
  obtain ⟨p, hp, -⟩ := plan_read h1; obtain ⟨c, rfl, -⟩ := h2.rd.i64
  exact PlanOwn_spec hp
end Go.Am
