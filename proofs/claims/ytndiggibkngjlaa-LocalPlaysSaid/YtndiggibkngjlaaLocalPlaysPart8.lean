/- Parts of the proofs of the statements of this seat: LocalX7, WLocalPlays. No conditions. -/
import Derived.Test.YtndiggibkngjlaaLocalPlaysPart7
set_option linter.unusedVariables false
set_option linter.unusedSimpArgs false

/- LocalPlays: all calls. -/
set_option linter.unusedVariables false
set_option linter.unusedSimpArgs false
namespace Go.Am
variable {m : Mem}

theorem insU_perm {L : List En} {w : Sp} : (insU L w).Perm (ent w :: L) := by
  unfold insU
  have h := List.takeWhile_append_dropWhile (p := fun e : En => decide (e.u < w.1)) (l := L)
  exact (List.perm_middle).trans (by rw [h])
theorem newL_perm {l : List Sp} : (newL l).Perm (l.map ent) := by
  suffices h : ∀ (l : List Sp) (L : List En), (l.foldl insU L).Perm (L ++ l.map ent) by have := h l []; rw [List.nil_append] at this; exact this
  intro l
  induction l with
  | nil => intro L; simp
  | cons w l ih =>
    intro L
    rw [List.foldl_cons, List.map_cons]
    refine (ih _).trans ?_
    refine ((insU_perm).append_right _).trans ?_
    exact (List.perm_middle).symm
theorem dropWhile_ge {p : En → Bool} : ∀ {L : List En}, L.Pairwise (fun a b => a.u ≤ b.u) → (∀ a b : En, a.u ≤ b.u → p b = true → p a = true) → ∀ e ∈ L.dropWhile p, p e = false
  | [], _, _ => by simp
  | a :: L, h, hp => by
    rw [List.pairwise_cons] at h
    by_cases ha : p a = true
    · simpa [List.dropWhile_cons, ha] using dropWhile_ge h.2 hp
    · have ha' : p a = false := by simpa using ha
      intro e he
      rw [List.dropWhile_cons, if_neg ha] at he
      rcases List.mem_cons.1 he with rfl | he
      · exact ha'
      · cases h' : p e with
        | false => rfl
        | true => exact absurd (hp a e (h.1 e he) h') ha
theorem takeWhile_lt {p : En → Bool} : ∀ {L : List En}, ∀ e ∈ L.takeWhile p, p e = true
  | [], e, h => by simp at h
  | a :: L, e, h => by
    by_cases ha : p a = true
    · rw [List.takeWhile_cons, if_pos ha] at h
      rcases List.mem_cons.1 h with rfl | h
      · exact ha
      · exact takeWhile_lt e h
    · rw [List.takeWhile_cons, if_neg ha] at h; simp at h
theorem insU_sorted {L : List En} {w : Sp} (h : L.Pairwise fun a b => a.u ≤ b.u) : (insU L w).Pairwise fun a b => a.u ≤ b.u := by
  have h0 := h
  rw [← List.takeWhile_append_dropWhile (p := fun e : En => decide (e.u < w.1)) (l := L), List.pairwise_append] at h
  obtain ⟨h1, h2, h3⟩ := h
  have g1 : ∀ e ∈ L.takeWhile (fun e : En => decide (e.u < w.1)), e.u < w.1 := fun e he => by simpa using takeWhile_lt e he
  have g2 : ∀ e ∈ L.dropWhile (fun e : En => decide (e.u < w.1)), ¬ e.u < w.1 := fun e he => by
    have := dropWhile_ge h0 (p := fun e : En => decide (e.u < w.1)) (fun a b h1 h2 => by simp only [decide_eq_true_eq] at h2 ⊢; omega) e he
    simpa using this
  unfold insU
  rw [List.pairwise_append, List.pairwise_cons]
  refine ⟨h1, ⟨fun e he => ?_, h2⟩, fun a ha e he => ?_⟩
  · have := g2 e he; show w.1 ≤ e.u; omega
  · have := g1 a ha
    rcases List.mem_cons.1 he with rfl | he
    · show a.u ≤ w.1; omega
    · exact h3 a ha e he
theorem newL_sorted {l : List Sp} : (newL l).Pairwise fun a b => a.u ≤ b.u := by
  suffices h : ∀ (l : List Sp) (L : List En), L.Pairwise (fun a b => a.u ≤ b.u) → (l.foldl insU L).Pairwise (fun a b => a.u ≤ b.u) by exact h l [] List.Pairwise.nil
  intro l
  induction l with
  | nil => intro L h; exact h
  | cons w l ih => intro L h; exact ih _ (insU_sorted h)
theorem newL_eq {l : List Sp} {L : List En} (hp : L.Perm (l.map ent)) (hs : L.Pairwise fun x y => ¬ cmpI y.u x.u < 0) (hn : (l.map Prod.fst).Nodup) : newL l = L := by
  have hs' : L.Pairwise fun a b => a.u ≤ b.u := hs.imp fun {a b} h => by rw [cmpI_neg] at h; omega
  have hpp : (newL l).Perm L := newL_perm.trans hp.symm
  refine List.Perm.eq_of_pairwise (le := fun a b : En => a.u ≤ b.u) (fun a b ha hb h1 h2 => ?_) newL_sorted hs' hpp
  obtain ⟨x, hx, rfl⟩ := List.mem_map.1 (newL_perm.mem_iff.1 ha)
  obtain ⟨y, hy, rfl⟩ := List.mem_map.1 (hp.mem_iff.1 hb)
  have : x.1 = y.1 := by simp only [ent] at h1 h2; omega
  rw [same_unit hn hx hy this]

set_option maxHeartbeats 4000000 in
theorem LocalPlays_spec {l : List Sp} {v av : Value} {f ask : Int} {n : Nat} {cs : List Value} (hs : Sl m 2 l.length (l.flatMap spV) v) (hb : SlLt m v) (hc : Cut 2 m v) (hr : ∀ w ∈ l, inR w.1 ∧ inR w.2) (hA : ActsV m n cs av) :
    WC R F.law15_LocalPlays [.int .i64 f, v, av, .int .i64 ask] m fun r _ => r = .bool true := by
  refine WC.of R.law15_LocalPlays rfl ?_
  simp only [RC.law15_LocalPlays, go_sem, Int.reduceBEq, Int.reduceBNe, Int.reduceNeg, reduceCtorEq, Nat.reduceEqDiff, Nat.reduceAdd, Nat.reduceLeDiff, Nat.reduceMul, Nat.reduceSub, Int.reduceToNat, Int.reduceLT, Int.reduceLE, hs.len]
  have e : (if (80 : Int) < l.length then (80 : Int) else l.length) = ((min l.length 80 : Nat) : Int) := by
    split <;> omega
  obtain ⟨v', a1, hs', hb', hL⟩ := cutTo (N := 80) hs hb hc
  have hrL : ∀ w ∈ l.take 80, inR w.2 := fun w hw => (hr w (List.mem_of_mem_take hw)).2
  generalize l.take 80 = l' at hs' hL hrL
  simp only [go_sem, Int.reduceBEq, Int.reduceBNe, Int.reduceNeg, reduceCtorEq, Nat.reduceEqDiff, Nat.reduceAdd, Nat.reduceLeDiff, Nat.reduceMul, Nat.reduceSub, Int.reduceToNat, Int.reduceLT, Int.reduceLE, e, a1]
  refine gC.of (locNew hs' hb' (by omega) hrL) ?_
  rintro _ m1 (⟨hE, rfl, hx⟩ | ⟨hE, b, L, lv, rfl, hV, hp, hso⟩)
  · simp only [go_sem, Int.reduceBEq, Int.reduceBNe, Int.reduceNeg, reduceCtorEq, Nat.reduceEqDiff, Nat.reduceAdd, Nat.reduceLeDiff, Nat.reduceMul, Nat.reduceSub, Int.reduceToNat, Int.reduceLT, Int.reduceLE, aExt0, aExt1]
    refine gC.of (ref15Check (hs'.keep hb' hx) (by omega) hrL) ?_
    rintro _ _ ⟨rfl, hm⟩
    subst hm
    have e0 : (newE f l' != newE f l') = false := bne_self_eq_false _
    have e1 : (newE f l' != 0) = true := by rw [bne_iff_ne]; exact hE
    simp only [go_sem, Int.reduceBEq, Int.reduceBNe, Int.reduceNeg, reduceCtorEq, Nat.reduceEqDiff, Nat.reduceAdd, Nat.reduceLeDiff, Nat.reduceMul, Nat.reduceSub, Int.reduceToNat, Int.reduceLT, Int.reduceLE, e0, e1, Option.isNone_none]
    refine gC.of (ok_spec R.law15_awake) ?_
    rintro _ m_ ⟨rfl, hm_⟩
    replace hm_ := hm_.symm
    subst hm_
    simp only [go_sem, Int.reduceBEq, Int.reduceBNe, Int.reduceNeg, reduceCtorEq, Nat.reduceEqDiff, Nat.reduceAdd, Nat.reduceLeDiff, Nat.reduceMul, Nat.reduceSub, Int.reduceToNat, Int.reduceLT, Int.reduceLE]
  · simp only [go_sem, Int.reduceBEq, Int.reduceBNe, Int.reduceNeg, reduceCtorEq, Nat.reduceEqDiff, Nat.reduceAdd, Nat.reduceLeDiff, Nat.reduceMul, Nat.reduceSub, Int.reduceToNat, Int.reduceLT, Int.reduceLE, aExt0, aExt1]
    refine gC.of (ref15Check (hs'.keep hb' hV.ext) (by omega) hrL) ?_
    rintro _ m' ⟨rfl, hm⟩
    replace hm := hm.symm
    subst hm
    have e0 : ((0 : Int) != newE f l') = false := by rw [hE]; rfl
    have e1 : ((0 : Int) != 0) = false := rfl
    have e2 : aEq .ptr (.pointer (some ⟨b, 0, none⟩)) (.pointer none) = some false := rfl
    simp only [go_sem, Int.reduceBEq, Int.reduceBNe, Int.reduceNeg, reduceCtorEq, Nat.reduceEqDiff, Nat.reduceAdd, Nat.reduceLeDiff, Nat.reduceMul, Nat.reduceSub, Int.reduceToNat, Int.reduceLT, Int.reduceLE, e0, e1, e2]
    refine gC.of (ref15New (hs'.keep hb' hV.ext) (hb'.keep hV.ext) (by omega)) ?_
    rintro _ m2 ⟨⟨wv, gv, rfl, hR, hwn, hgn⟩, hx2⟩
    obtain ⟨f1, f2, k1, k2, k3⟩ := newE_zero hE (by omega)
    rw [newL_eq hp hso k2] at hR
    have hLl : L.length = l'.length := by rw [hp.length_eq, List.length_map]
    have hkp : (keys L).Perm l' := by have := keys_perm hp; rw [keys_ent] at this; exact this
    have hk1 : ∀ e ∈ L, (e.u, e.s) ∈ l' := fun e he => hkp.mem_iff.1 (List.mem_map.2 ⟨e, he, rfl⟩)
    have hLI : LI L 0 := by
      refine ⟨⟨fun e he => ?_, fun e he => ?_⟩, ?_, by omega, fun e he => ?_⟩
      · have := k1 _ (hk1 e he); simp only at this; omega
      · obtain ⟨w, -, rfl⟩ := List.mem_map.1 (hp.mem_iff.1 he); exact Nat.le_refl _
      · have e : L.map En.u = (keys L).map Prod.fst := by unfold keys; rw [List.map_map]; rfl
        rw [e]; exact (hkp.map Prod.fst).nodup_iff.2 k2
      · have := (k1 _ (hk1 e he)).1
        unfold isU at this
        simp only at this; omega
    have hst : aStore 2 (m2.new (.cells [.slice none 0 0, .slice none 0 0] (some 2))) (.pointer (some ⟨m2.next, 0, none⟩)) (.agg #[wv, gv]) = some (m2.new (.cells [wv, gv] (some 2))) := by
      have e : (#[wv, gv] : Array Value) = [wv, gv].toArray := rfl
      have h1 : wv.oneCell' = true := hR.w.one
      have h2 : gv.oneCell' = true := hR.g.one
      have h3 : oneCells [wv, gv] = true := by unfold oneCells; simp [h1, h2]
      rw [e]
      simp only [go_sem, Int.reduceBEq, Int.reduceBNe, Int.reduceNeg, reduceCtorEq, Nat.reduceEqDiff, Nat.reduceAdd, Nat.reduceLeDiff, Nat.reduceMul, Nat.reduceSub, Int.reduceToNat, Int.reduceLT, Int.reduceLE, load_w, load_a, store_b, idxS_b, set_blk, new_blk, set_next, new_next, len_s, ldW_c, ldA_c, stB_c, toArr_one, size_one, toList_toArr, size_toArr, List.length_cons, List.length_nil, List.getElem?_cons_zero, List.getElem?_cons_succ, Nat.zero_add, Nat.add_zero, h3]
    have hx3 : Ext m2 (m2.new (.cells [wv, gv] (some 2))) := Ext.new
    have hb3 : Bk (m2.new (.cells [wv, gv] (some 2))) m2.next [wv, gv] 2 := Bk.new
    simp only [go_sem, Int.reduceBEq, Int.reduceBNe, Int.reduceNeg, reduceCtorEq, Nat.reduceEqDiff, Nat.reduceAdd, Nat.reduceLeDiff, Nat.reduceMul, Nat.reduceSub, Int.reduceToNat, Int.reduceLT, Int.reduceLE, hst]
    generalize m2.new (.cells [wv, gv] (some 2)) = m3 at hx3 hb3 ⊢
    have n1 := hx2.next
    have n0 := hV.ext.next
    have hwl := SlLt.vb_iff.1 hR.wl
    have hgl := SlLt.vb_iff.1 hR.gl
    have hI : PlI m m3 b m2.next m1.next L lv wv gv := ⟨(hV.keep hx2).keep hx3, hb3, hR.keep hx3, hV.box.lt, SlLt.vb_iff.1 hV.own.lt, n1,
      fun x hx => ⟨hwn x hx, by have := hwl x hx; omega⟩, fun x hx => ⟨hgn x hx, by have := hgl x hx; omega⟩⟩
    refine WL.of (fun q e m' => ∃ (i : Nat) (L : List En) (lv wv gv : Value), i ≤ 100 ∧ q = 100 - i ∧ e = actE av ask b m2.next i ∧ PlI m m' b m2.next m1.next L lv wv gv ∧ LI L i) 100
      ⟨0, L, lv, wv, gv, by omega, by omega, by simp only [actE, go_sem, Int.reduceBEq, Int.reduceBNe, Int.reduceNeg, reduceCtorEq, Nat.reduceEqDiff, Nat.reduceAdd, Nat.reduceLeDiff, Nat.reduceMul, Nat.reduceSub, Int.reduceToNat, Int.reduceLT, Int.reduceLE] <;> rfl, hI, hLI⟩ ?_
    rintro _ _ m4 ⟨i, L, lv, wv, gv, hi, rfl, rfl, hI, hLI⟩
    by_cases hin : i < n ∧ i < 100
    · refine gp_mono (Plays_body hA hin.1 hin.2 hI hLI n0) ?_
      rintro _ _ m5 ⟨rfl, rfl, L', lv', wv', gv', hI', hLI'⟩
      simp only [go_sem, Int.reduceBEq, Int.reduceBNe, Int.reduceNeg, reduceCtorEq, Nat.reduceEqDiff, Nat.reduceAdd, Nat.reduceLeDiff, Nat.reduceMul, Nat.reduceSub, Int.reduceToNat, Int.reduceLT, Int.reduceLE]
      exact ⟨100 - (i + 1), by omega, i + 1, L', lv', wv', gv', by omega, rfl, rfl, hI', hLI'⟩
    · have hA4 := hA.keep hI.loc.ext
      simp only [RB.law15_LocalPlays_2, actE]
      simp only [go_sem, Int.reduceBEq, Int.reduceBNe, Int.reduceNeg, reduceCtorEq, Nat.reduceEqDiff, Nat.reduceAdd, Nat.reduceLeDiff, Nat.reduceMul, Nat.reduceSub, Int.reduceToNat, Int.reduceLT, Int.reduceLE, hA4.sl.len]
      by_cases h1 : i < n
      · have e1 : decide ((i : Int) < (n : Int)) = true := decide_eq_true (by omega)
        have e2 : decide ((i : Int) < 100) = false := decide_eq_false (by omega)
        simp only [go_sem, Int.reduceBEq, Int.reduceBNe, Int.reduceNeg, reduceCtorEq, Nat.reduceEqDiff, Nat.reduceAdd, Nat.reduceLeDiff, Nat.reduceMul, Nat.reduceSub, Int.reduceToNat, Int.reduceLT, Int.reduceLE, e1, e2]
        refine gC.of (ok_spec R.law15_awake) ?_
        rintro _ m_ ⟨rfl, hm_⟩
        replace hm_ := hm_.symm
        subst hm_
        simp only [go_sem, Int.reduceBEq, Int.reduceBNe, Int.reduceNeg, reduceCtorEq, Nat.reduceEqDiff, Nat.reduceAdd, Nat.reduceLeDiff, Nat.reduceMul, Nat.reduceSub, Int.reduceToNat, Int.reduceLT, Int.reduceLE]
      · have e1 : decide ((i : Int) < (n : Int)) = false := decide_eq_false (by omega)
        simp only [go_sem, Int.reduceBEq, Int.reduceBNe, Int.reduceNeg, reduceCtorEq, Nat.reduceEqDiff, Nat.reduceAdd, Nat.reduceLeDiff, Nat.reduceMul, Nat.reduceSub, Int.reduceToNat, Int.reduceLT, Int.reduceLE, e1]
        refine gC.of (ok_spec R.law15_awake) ?_
        rintro _ m_ ⟨rfl, hm_⟩
        replace hm_ := hm_.symm
        subst hm_
        simp only [go_sem, Int.reduceBEq, Int.reduceBNe, Int.reduceNeg, reduceCtorEq, Nat.reduceEqDiff, Nat.reduceAdd, Nat.reduceLeDiff, Nat.reduceMul, Nat.reduceSub, Int.reduceToNat, Int.reduceLT, Int.reduceLE]
end Go.Am


/- LocalPlays, of arguments as they are read. -/
set_option linter.unusedVariables false
namespace Go.Am
theorem law15_LocalPlays_walk (m : Mem) (us : List Value) (h : RdAs m [(false, [.int .i64]), (false, [.sl [.int .i64, .int .i64]]), (false, [.sl [.int .i64, .sl [.int .i64], .int .i64]]), (false, [.int .i64])] us) : WC R F.law15_LocalPlays us m fun v _ => v = .bool true := by
  obtain ⟨_, _, rfl, h1, h⟩ := h.one; obtain ⟨_, _, rfl, h2, h⟩ := h.one; obtain ⟨_, _, rfl, h3, h⟩ := h.one; obtain ⟨_, _, rfl, h4, h⟩ := h.one; cases h.none
  obtain ⟨f, rfl, -⟩ := h1.rd.i64; obtain ⟨l, hs, hb, hc, hr⟩ := w_read h2.rd
  obtain ⟨n, cs, hA⟩ := acts_read h3.rd
  obtain ⟨ask, rfl, -⟩ := h4.rd.i64
  exact LocalPlays_spec hs hb hc hr hA
end Go.Am
