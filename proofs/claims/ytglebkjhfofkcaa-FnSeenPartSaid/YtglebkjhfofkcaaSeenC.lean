/-
  What the reference's SeenAdd returns. Conditions: the list can be read and is not too long.
-/
import Derived.Test.YtglebkjhfofkcaaSeenB
namespace Go.Proofs.Ytglebkjhfofkcaa
open Go.ChangeShapes Go.WideShapes Go.ChangeAt Go.RowKit
set_option linter.unusedVariables false

theorem sadd_3 (cum : Int) (A : Option Addr) (n c : Nat) (zs : List Int) (tsn : Int) (w : World) (hs : Sl w w.heap.size A (ints zs)) (hn : zs.length = n) (hm : n ≤ 9223372036854775807) (h : seenOk cum zs = false ∨ okB tsn = false) :
    Calls Try.prog 50 #[.agg #[.int .i64 cum, .slice A n c], .int .i64 tsn] w (SeenAddP cum zs tsn w) := by
  rw [sap3 (sa3 h)]
  have HS := Lib.hid hs; have HN := Lib.hid hn; clear hs hn
  by_cases h1 : seenOk cum zs = true
  · have h2 : okB tsn = false := by rcases h with h | h; rw [h1] at h; cases h; exact h
    clear h
    go_enter Try.func50, Try.ntmps50
    go_wp2_with fail
    refine (sseen_valid _ _ _ _ zs _ (((HS.out.alloc (Nat.le_refl _) _).alloc (by simp) _).more (by simp; omega)) HN.out hm).mono ?_
    rintro e w1 ⟨rfl, b1'⟩
    obtain ⟨q1, q2, z1, b1⟩ := boxed2 b1'
    have y0 := q2.get 0 rfl
    have y1 := q2.get 1 rfl
    have f0 := q2.frozen 0
    have f1 := q2.frozen 1
    have B1 := Lib.hid b1
    clear b1 b1' q1 q2
    go_wp2_with (go_at_call 60; refine (l3ok_any _ _).mono ?_; rintro e w' ⟨rfl, rfl⟩)
    refine bodyPost_ret (v := .tuple #[.agg #[.int .i64 0, .slice none 0 0], .int .i64 3]) (by simp [results, Try.results50, go_sem, y0, y1]) rfl ?_
    exact ⟨_, _, rfl, Own.nil _ _ _ _, (B1.out.setCell (by simp) _).setCell (by simp) _⟩
  · have h1 : seenOk cum zs = false := by simpa using h1
    clear h
    go_enter Try.func50, Try.ntmps50
    go_wp2_with fail
    refine (sseen_valid _ _ _ _ zs _ (((HS.out.alloc (Nat.le_refl _) _).alloc (by simp) _).more (by simp; omega)) HN.out hm).mono ?_
    rintro e w1 ⟨rfl, b1'⟩
    obtain ⟨q1, q2, z1, b1⟩ := boxed2 b1'
    have y0 := q2.get 0 rfl
    have y1 := q2.get 1 rfl
    have f0 := q2.frozen 0
    have f1 := q2.frozen 1
    have B1 := Lib.hid b1
    clear b1 b1' q1 q2
    go_wp2
    refine bodyPost_ret (v := .tuple #[.agg #[.int .i64 0, .slice none 0 0], .int .i64 3]) (by simp [results, Try.results50, go_sem, y0, y1]) rfl ?_
    exact ⟨_, _, rfl, Own.nil _ _ _ _, (B1.out.setCell (by simp) _).setCell (by simp) _⟩
set_option maxHeartbeats 3200000 in
set_option maxRecDepth 100000 in
theorem sadd_ok (cum : Int) (A : Option Addr) (n c : Nat) (zs : List Int) (tsn : Int) (w : World) (hs : Sl w w.heap.size A (ints zs)) (hn : zs.length = n) (h1 : seenOk cum zs = true) (h2 : okB tsn = true) :
    Calls Try.prog 50 #[.agg #[.int .i64 cum, .slice A n c], .int .i64 tsn] w (SeenAddP cum zs tsn w) := by
  obtain ⟨i0, hi, hz0, hz1, hz2⟩ := info_parts info_int'
  have hl := seenOk_len h1
  have hm : n ≤ 15 := by omega
  have hc := (seenOk_true h1).2
  have HS := Lib.hid hs; have HN := Lib.hid hn; clear hs hn hl
  go_enter Try.func50, Try.ntmps50
  go_wp2_with fail
  refine (sseen_valid _ _ _ _ zs _ (((HS.out.alloc (Nat.le_refl _) _).alloc (by simp) _).more (by simp; omega)) HN.out (by omega)).mono ?_
  rintro e w1 ⟨rfl, b1'⟩
  obtain ⟨q1, q2, z1, b1⟩ := boxed2 b1'
  have x0 : w1.cell? ⟨w.heap.size, 0, none⟩ = some (.int .i64 cum) := q1.get 0 rfl
  have x1 : w1.cell? ⟨w.heap.size, 1, none⟩ = some (.slice A n c) := q1.get 1 rfl
  have B1 := Lib.hid b1
  have Q1 := Lib.hid q1
  have Q2 := Lib.hid q2
  have HS1 := Lib.hid ((HS.out.below b1 (Nat.le_refl _)).more b1.size)
  clear b1 b1' q1 q2
  go_upto_region 4 with (first | (go_at_call 60; refine (l3ok_any _ _).mono ?_; rintro e w' ⟨rfl, rfl⟩) | (go_at_call 64; refine (l3diff_any _ _ hc h2 _).mono ?_; rintro e w' ⟨rfl, rfl⟩))
  go_cut [7] (fun s6 wx => CopyP cum zs n w1 wx s6)
  case first =>
    go_region_held3 (fun w' => w'.cell? ⟨w.heap.size, 0, none⟩ = some (.int .i64 cum) ∧ w'.cell? ⟨w.heap.size, 1, none⟩ = some (.slice A n c)) (first | exact ⟨x0, x1⟩ | exact ⟨r0, r1⟩ | exact ⟨((Q2'.out.far (Nat.ne_of_lt (by simp; omega)) _).far (Nat.ne_of_lt (by simp; omega)) _).get 0 rfl, ((Q2'.out.far (Nat.ne_of_lt (by simp; omega)) _).far (Nat.ne_of_lt (by simp; omega)) _).get 1 rfl⟩ | go_keep)
      (first
        | ((refine step_copy ((w1.alloc (.cells #[] 3)).drew) (by rfl) _ _ _ (by rfl) w1.heap.size 3 i0 (.int .i64 0) 1 8 Try.underlying24 hi hz0 hz1 hz2 rfl (by decide) (some ⟨w1.heap.size, 0, none⟩) 0 (by rfl) (Own.made w1 w1.heap.size 3 1 #[] 0 (Nat.le_refl _) (by unfold maxLen; omega) rfl).drew w1.heap.size A n c (ints zs) (by rfl) ((HS1.out.alloc (Nat.le_refl _) _).drew) (by rw [ints_len, HN.out, Nat.mul_one]) (ints_one zs) (by unfold maxLen; omega) (by omega) (by simp only [World.size_alloc, World.size_drew]; omega) ?_); intro A2 c2 row w2 o2 g2 r2 d2; have O2 := Lib.hid o2; have D2 := Lib.hid d2; have G2 := Lib.hid g2; have R2 := Lib.hid r2; have B2 := Lib.hid (below_at (((Below.refl w1.heap.size w1).alloc (Nat.le_refl _) _).drew) (by simp only [World.size_alloc, World.size_drew]; omega) g2 r2 (fun a ha => by injection ha with ha; subst ha; simp)); have Q2' := Lib.hid (blk_at ((Q1.out.alloc _).drew) g2 r2 (fun a ha => by injection ha with ha; subst ha; have := Q1.out.lt; simp; omega)); have r0 : w2.cell? ⟨w.heap.size, 0, none⟩ = some (.int .i64 cum) := Q2'.out.get 0 rfl; have r1 : w2.cell? ⟨w.heap.size, 1, none⟩ = some (.slice A n c) := Q2'.out.get 1 rfl; clear o2 g2 r2 d2)
        | ((refine step_copy (((w1.alloc (.cells #[] 3)).alloc (.cells #[.int .i64 0, .slice none 0 0] 26)).drew) (by rfl) _ _ _ (by rfl) w1.heap.size 3 i0 (.int .i64 0) 1 8 Try.underlying24 hi hz0 hz1 hz2 rfl (by decide) (some ⟨w1.heap.size, 0, none⟩) 0 (by rfl) ((Own.made w1 w1.heap.size 3 1 #[] 0 (Nat.le_refl _) (by unfold maxLen; omega) rfl).alloc _).drew w1.heap.size A n c (ints zs) (by rfl) (((HS1.out.alloc (Nat.le_refl _) _).alloc (by simp) _).drew) (by rw [ints_len, HN.out, Nat.mul_one]) (ints_one zs) (by unfold maxLen; omega) (by omega) (by simp only [World.size_alloc, World.size_drew]; omega) ?_); intro A2 c2 row w2 o2 g2 r2 d2; have O2 := Lib.hid o2; have D2 := Lib.hid d2; have G2 := Lib.hid g2; have R2 := Lib.hid r2; have B2 := Lib.hid (below_at ((((Below.refl w1.heap.size w1).alloc (Nat.le_refl _) _).alloc (by simp) _).drew) (by simp only [World.size_alloc, World.size_drew]; omega) g2 r2 (fun a ha => by injection ha with ha; subst ha; simp)); have Q2' := Lib.hid (blk_at (((Q1.out.alloc _).alloc _).drew) g2 r2 (fun a ha => by injection ha with ha; subst ha; have := Q1.out.lt; simp; omega)); have r0 : w2.cell? ⟨w.heap.size, 0, none⟩ = some (.int .i64 cum) := Q2'.out.get 0 rfl; have r1 : w2.cell? ⟨w.heap.size, 1, none⟩ = some (.slice A n c) := Q2'.out.get 1 rfl; have QB : Blk w2 (w1.heap.size + 1) #[.int .i64 0, .slice none 0 0] 26 := blk_at (by have h := (Blk.new (w1.alloc (.cells #[] 3)) #[.int .i64 0, .slice none 0 0] 26).drew; simpa using h) g2 r2 (fun a ha => by injection ha with ha; subst ha; simp); have k0 : w2.cell? ⟨w1.heap.size + 1, 0, none⟩ = some (.int .i64 0) := QB.get 0 rfl; have k1 : w2.cell? ⟨w1.heap.size + 1, 1, none⟩ = some (.slice none 0 0) := QB.get 1 rfl; have kf0 := QB.frozen 0; have kf1 := QB.frozen 1; have QBh := Lib.hid QB; clear QB o2 g2 r2 d2)
        | ((refine step_copy (((w1.alloc (.cells #[.int .i64 0, .slice none 0 0] 26)).alloc (.cells #[] 3)).drew) (by rfl) _ _ _ (by rfl) w1.heap.size 3 i0 (.int .i64 0) 1 8 Try.underlying24 hi hz0 hz1 hz2 rfl (by decide) (some ⟨w1.heap.size + 1, 0, none⟩) 0 (by rfl) (by have h := (Own.made (w1.alloc (.cells #[.int .i64 0, .slice none 0 0] 26)) w1.heap.size 3 1 #[] 0 (by simp) (by unfold maxLen; omega) rfl).drew; simpa using h) w1.heap.size A n c (ints zs) (by rfl) (((HS1.out.alloc (Nat.le_refl _) _).alloc (by simp) _).drew) (by rw [ints_len, HN.out, Nat.mul_one]) (ints_one zs) (by unfold maxLen; omega) (by omega) (by simp only [World.size_alloc, World.size_drew]; omega) ?_); intro A2 c2 row w2 o2 g2 r2 d2; have O2 := Lib.hid o2; have D2 := Lib.hid d2; have G2 := Lib.hid g2; have R2 := Lib.hid r2; have B2 := Lib.hid (below_at ((((Below.refl w1.heap.size w1).alloc (Nat.le_refl _) _).alloc (by simp) _).drew) (by simp only [World.size_alloc, World.size_drew]; omega) g2 r2 (fun a ha => by injection ha with ha; subst ha; simp)); have Q2' := Lib.hid (blk_at (((Q1.out.alloc _).alloc _).drew) g2 r2 (fun a ha => by injection ha with ha; subst ha; have := Q1.out.lt; simp; omega)); have r0 : w2.cell? ⟨w.heap.size, 0, none⟩ = some (.int .i64 cum) := Q2'.out.get 0 rfl; have r1 : w2.cell? ⟨w.heap.size, 1, none⟩ = some (.slice A n c) := Q2'.out.get 1 rfl; have QB : Blk w2 w1.heap.size #[.int .i64 0, .slice none 0 0] 26 := blk_at ((Blk.new w1 #[.int .i64 0, .slice none 0 0] 26).alloc _).drew g2 r2 (fun a ha => by injection ha with ha; subst ha; simp); have k0 : w2.cell? ⟨w1.heap.size, 0, none⟩ = some (.int .i64 0) := QB.get 0 rfl; have k1 : w2.cell? ⟨w1.heap.size, 1, none⟩ = some (.slice none 0 0) := QB.get 1 rfl; have kf0 := QB.frozen 0; have kf1 := QB.frozen 1; have QBh := Lib.hid QB; clear QB o2 g2 r2 d2))
    · go_wp2_with fail
      go_meet
      exact ⟨w2.heap.size, A2, c2, rfl, Blk.new w2 _ _, O2.out.alloc _, B2.out.alloc B2.out.size _, B2.out.size⟩
    all_goals
      go_wp2_with fail
      go_meet
      refine ⟨_, A2, c2, rfl, ?_, (O2.out.set_ne (O2.out.ne_blk QBh.out (by decide)) _).set_ne (O2.out.ne_blk QBh.out (by decide)) _, (B2.out.setCell (by simp) _).setCell (by simp) _, by simp⟩
      have h := (QBh.out.set_ 0 (.int .i64 cum)).set_ 1 (.slice A2 n c2)
      simpa using h
  case rest =>
    obtain ⟨g, A2, c2, rfl, q6, o2, b2, hg⟩ := hcut
    have Q1c := Lib.hid (Q1.out.below b2 Q1.out.lt)
    have Q2c := Lib.hid (Q2.out.below b2 Q2.out.lt)
    have x0 : wc.cell? ⟨w.heap.size, 0, none⟩ = some (.int .i64 cum) := Q1c.out.get 0 rfl
    have x1 : wc.cell? ⟨w.heap.size, 1, none⟩ = some (.slice A n c) := Q1c.out.get 1 rfl
    have y0 : wc.cell? ⟨w.heap.size + 1, 0, none⟩ = some (.int .i64 0) := Q2c.out.get 0 rfl
    have y1 : wc.cell? ⟨w.heap.size + 1, 1, none⟩ = some (.slice none 0 0) := Q2c.out.get 1 rfl
    have f0 := Q2c.out.frozen 0
    have f1 := Q2c.out.frozen 1
    have v0 : wc.cell? ⟨g, 0, none⟩ = some (.int .i64 cum) := q6.get 0 rfl
    have v1 : wc.cell? ⟨g, 1, none⟩ = some (.slice A2 n c2) := q6.get 1 rfl
    have hgl := q6.lt
    have hN := Q2c.out.lt
    have hN0 := Q1c.out.lt
    have Q6 := Lib.hid q6
    have O2 := Lib.hid o2
    have BC := Lib.hid (bstep B1.out b2 B1.out.size)
    have HSc := Lib.hid ((HS1.out.below b2 (Nat.le_refl _)).more b2.size)
    clear q6 o2 b2
    by_cases h3 : sdiff cum tsn ≤ 0
    · go_wp2
      refine bodyPost_ret (v := .tuple #[.agg #[.int .i64 cum, .slice A2 n c2], .int .i64 1]) (by simp [results, Try.results50, go_sem, y0, y1]) rfl ?_
      rw [sap1 (sa1 h1 h2 (by rw [decide_eq_true h3]; rfl)), HN.out]
      exact ⟨_, _, rfl, ((O2.out.setLow (by simp; omega) _).setLow (by simp; omega) _).lower (by omega), (BC.out.setCell (by simp) _).setCell (by simp) _⟩
    · by_cases hb : hasB zs (sdiff cum tsn) = true
      · go_wp2_with (go_at_call 65; refine (l21has_any _ _ _ zs _ _ HSc.out HN.out (by omega)).mono ?_; rintro e w' ⟨rfl, rfl⟩)
        refine bodyPost_ret (v := .tuple #[.agg #[.int .i64 cum, .slice A2 n c2], .int .i64 1]) (by simp [results, Try.results50, go_sem, y0, y1]) rfl ?_
        rw [sap1 (sa1 h1 h2 (by rw [hb, Bool.or_true])), HN.out]
        exact ⟨_, _, rfl, ((O2.out.setLow (by simp; omega) _).setLow (by simp; omega) _).lower (by omega), (BC.out.setCell (by simp) _).setCell (by simp) _⟩
      · have hb' : hasB zs (sdiff cum tsn) = false := by simpa using hb
        clear hb
        by_cases hf : 16 < sdiff cum tsn
        · go_wp2_with (go_at_call 65; refine (l21has_any _ _ _ zs _ _ HSc.out HN.out (by omega)).mono ?_; rintro e w' ⟨rfl, rfl⟩)
          refine bodyPost_ret (v := .tuple #[.agg #[.int .i64 cum, .slice A2 n c2], .int .i64 2]) (by simp [results, Try.results50, go_sem, y0, y1]) rfl ?_
          rw [sap2 (sa2 h1 h2 (by rw [hb', decide_eq_false (by omega)]; rfl) hf), HN.out]
          exact ⟨_, _, rfl, ((O2.out.setLow (by simp; omega) _).setLow (by simp; omega) _).lower (by omega), (BC.out.setCell (by simp) _).setCell (by simp) _⟩
        · have h17 := Lib.hid (all17 h1 (Int.not_lt.1 hf))
          go_wp2_with (go_at_call 65; refine (l21has_any _ _ _ zs _ _ HSc.out HN.out (by omega)).mono ?_; rintro e w' ⟨rfl, rfl⟩)
          have hne := Lib.hid (O2.out.ne_blk Q6.out (by decide))
          go_region_held3 (fun w' => w'.cell? ⟨w.heap.size, 0, none⟩ = some (.int .i64 cum) ∧ w'.cell? ⟨g, 1, none⟩ = some (.slice A2 n c2)) (first | exact ⟨x0, v1⟩ | exact ⟨a0, a1⟩ | exact ⟨p0, p1⟩ | exact ⟨((Q1v.out.far (Nat.ne_of_lt (by simp)) _).far (Nat.ne_of_lt (by simp)) _).get 0 rfl, ((Q6v.out.far (Nat.ne_of_gt (by simp; omega)) _).far (Nat.ne_of_gt (by simp; omega)) _).get 1 rfl⟩ | go_keep)
            (first
              | (refine step_app _ (by rfl) _ _ _ (by rfl) w1.heap.size 3 i0 (.int .i64 0) 1 8 Try.underlying24 hi hz0 hz1 hz2 rfl (by decide) A2 n c2 (ints zs) (by rfl) (O2.out.alloc _).drew (wc.heap.size + 1) (some ⟨wc.heap.size, 0, none⟩) 1 1 (ints [sdiff cum tsn]) (by rfl) (sl_new rfl).drew (by rfl) (ints_one _) (by unfold maxLen; omega) (by omega) (by simp only [World.size_alloc, World.size_drew]; omega) ?_; intro A4 c4 row w4 o4 g4 r4 d4; have O4 := Lib.hid (by have h := o4; unfold ints at h; rw [← List.map_append] at h; exact h : Own w4 w1.heap.size 3 1 A4 (n + 1) c4 (ints (saAll cum zs tsn))); have Q1w := Lib.hid (blk_at (Q1c.out.alloc _).drew g4 r4 (fun a ha => by have := (O2.out.blk a ha).1; omega)); have Q2w := Lib.hid (blk_at (Q2c.out.alloc _).drew g4 r4 (fun a ha => by have := (O2.out.blk a ha).1; omega)); have Q6w := Lib.hid (blk_at (Q6.out.alloc _).drew g4 r4 hne.out); have B4 := Lib.hid (below_at (BC.out.alloc (by omega) _).drew (by simp only [World.size_alloc, World.size_drew]; omega) g4 r4 (fun a ha => by have := (O2.out.blk a ha).1; omega)); have a0 : w4.cell? ⟨w.heap.size, 0, none⟩ = some (.int .i64 cum) := Q1w.out.get 0 rfl; have a1 : w4.cell? ⟨g, 1, none⟩ = some (.slice A2 n c2) := Q6w.out.get 1 rfl; clear o4 g4 r4 d4)
              | (go_at_call 82; refine (move_any _ _ _ _ (saAll cum zs tsn) _ O4.out.sl (by unfold saAll; rw [List.length_append, HN.out]; rfl) (by omega) hc h17.out).mono ?_; rintro e w5 ⟨A5, c5, rfl, o5, b5⟩; have O5 := Lib.hid o5; have Q1v := Lib.hid (Q1w.out.below b5 Q1w.out.lt); have Q2v := Lib.hid (Q2w.out.below b5 Q2w.out.lt); have Q6v := Lib.hid (Q6w.out.below b5 Q6w.out.lt); have B5 := Lib.hid (bstep B4.out b5 B4.out.size); have hw4 := Q2w.out.lt; have p0 : w5.cell? ⟨w.heap.size, 0, none⟩ = some (.int .i64 cum) := Q1v.out.get 0 rfl; have p1 : w5.cell? ⟨g, 1, none⟩ = some (.slice A2 n c2) := Q6v.out.get 1 rfl; have r0 : w5.cell? ⟨w.heap.size + 1, 0, none⟩ = some (.int .i64 0) := Q2v.out.get 0 rfl; have r1 : w5.cell? ⟨w.heap.size + 1, 1, none⟩ = some (.slice none 0 0) := Q2v.out.get 1 rfl; have rf0 := Q2v.out.frozen 0; have rf1 := Q2v.out.frozen 1; clear o5 b5))
          go_wp2
          refine bodyPost_ret (v := .tuple #[.agg #[.int .i64 (sadd cum (moved (saAll cum zs tsn))), .slice A5 (extraTo (saAll cum zs tsn) (moved (saAll cum zs tsn)) 17).length c5], .int .i64 0]) (by simp [results, Try.results50, go_sem, r0, r1]) rfl ?_
          rw [sap0 (sa0 h1 h2 (by rw [hb', decide_eq_false (by omega)]; rfl) (Int.not_lt.2 hf))]
          exact ⟨_, _, rfl, ((O5.out.setLow (by simp; omega) _).setLow (by simp; omega) _).lower (by omega), (B5.out.setCell (by simp) _).setCell (by simp) _⟩
theorem sseen_add (cum : Int) (A : Option Addr) (n c : Nat) (zs : List Int) (tsn : Int) (w : World) (hs : Sl w w.heap.size A (ints zs)) (hn : zs.length = n) (hm : n ≤ 9223372036854775807) :
    Calls Try.prog 50 #[.agg #[.int .i64 cum, .slice A n c], .int .i64 tsn] w (SeenAddP cum zs tsn w) := by
  by_cases h1 : seenOk cum zs = true
  · by_cases h2 : okB tsn = true
    · exact sadd_ok cum A n c zs tsn w hs hn h1 h2
    · exact sadd_3 cum A n c zs tsn w hs hn hm (.inr (by simpa using h2))
  · exact sadd_3 cum A n c zs tsn w hs hn hm (.inl (by simpa using h1))
end Go.Proofs.Ytglebkjhfofkcaa
