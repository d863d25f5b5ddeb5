/-
  What the program's SeenAdd returns. Conditions: the list can be read and is not too long.
-/
import Derived.Test.YtglebkjhfofkcaaSeenA0
namespace Go.Proofs.Ytglebkjhfofkcaa
open Go.ChangeShapes Go.WideShapes Go.ChangeAt Go.RowKit
set_option linter.unusedVariables false

set_option maxRecDepth 100000 in
theorem iadd_3 (cum : Int) (A : Option Addr) (n c : Nat) (zs : List Int) (tsn : Int) (w : World) (hs : Sl w w.heap.size A (ints zs)) (hn : zs.length = n) (hm : n ≤ 9223372036854775807) (h : seenOk cum zs = false ∨ okB tsn = false) :
    Calls Try.prog 51 #[.agg #[.int .i64 cum, .slice A n c], .int .i64 tsn] w (SeenAddP cum zs tsn w) := by
  rw [sap3 (sa3 h)]
  have HS := Lib.hid hs; have HN := Lib.hid hn; clear hs hn
  by_cases h1 : seenOk cum zs = true
  · have h2 : okB tsn = false := by rcases h with h | h; rw [h1] at h; cases h; exact h
    clear h
    go_enter Try.func51, Try.ntmps51
    go_wp2_with fail
    refine (iseen_valid _ _ _ _ zs _ (((HS.out.alloc (Nat.le_refl _) _).alloc (by simp) _).more (by simp; omega)) HN.out hm).mono ?_
    rintro e w1 ⟨rfl, b1'⟩
    obtain ⟨q1, q2, z1, b1⟩ := boxed2 b1'
    have y0 := q2.get 0 rfl
    have y1 := q2.get 1 rfl
    have f0 := q2.frozen 0
    have f1 := q2.frozen 1
    have B1 := Lib.hid b1
    clear b1 b1' q1 q2
    go_wp2_with (go_at_call 59; refine (ok_any _ _).mono ?_; rintro e w' ⟨rfl, rfl⟩)
    refine bodyPost_ret (v := .tuple #[.agg #[.int .i64 0, .slice none 0 0], .int .i64 3]) (by simp [results, Try.results51, go_sem, y0, y1]) rfl ?_
    exact ⟨_, _, rfl, Own.nil _ _ _ _, (B1.out.setCell (by simp) _).setCell (by simp) _⟩
  · have h1 : seenOk cum zs = false := by simpa using h1
    clear h
    go_enter Try.func51, Try.ntmps51
    go_wp2_with fail
    refine (iseen_valid _ _ _ _ zs _ (((HS.out.alloc (Nat.le_refl _) _).alloc (by simp) _).more (by simp; omega)) HN.out hm).mono ?_
    rintro e w1 ⟨rfl, b1'⟩
    obtain ⟨q1, q2, z1, b1⟩ := boxed2 b1'
    have y0 := q2.get 0 rfl
    have y1 := q2.get 1 rfl
    have f0 := q2.frozen 0
    have f1 := q2.frozen 1
    have B1 := Lib.hid b1
    clear b1 b1' q1 q2
    go_wp2
    refine bodyPost_ret (v := .tuple #[.agg #[.int .i64 0, .slice none 0 0], .int .i64 3]) (by simp [results, Try.results51, go_sem, y0, y1]) rfl ?_
    exact ⟨_, _, rfl, Own.nil _ _ _ _, (B1.out.setCell (by simp) _).setCell (by simp) _⟩
set_option maxHeartbeats 3200000 in
set_option maxRecDepth 100000 in
theorem iadd_ok (cum : Int) (A : Option Addr) (n c : Nat) (zs : List Int) (tsn : Int) (w : World) (hs : Sl w w.heap.size A (ints zs)) (hn : zs.length = n) (h1 : seenOk cum zs = true) (h2 : okB tsn = true) :
    Calls Try.prog 51 #[.agg #[.int .i64 cum, .slice A n c], .int .i64 tsn] w (SeenAddP cum zs tsn w) := by
  obtain ⟨i0, hi, hz0, hz1, hz2⟩ := info_parts info_int'
  have hl := seenOk_len h1
  have hm : n ≤ 15 := by omega
  have hc := (seenOk_true h1).2
  have HS := Lib.hid hs; have HN := Lib.hid hn; clear hs hn hl
  go_enter Try.func51, Try.ntmps51
  go_wp2_with fail
  refine (iseen_valid _ _ _ _ zs _ (((HS.out.alloc (Nat.le_refl _) _).alloc (by simp) _).more (by simp; omega)) HN.out (by omega)).mono ?_
  rintro e w1 ⟨rfl, b1'⟩
  obtain ⟨q1, q2, z1, b1⟩ := boxed2 b1'
  have x0 : w1.cell? ⟨w.heap.size, 0, none⟩ = some (.int .i64 cum) := q1.get 0 rfl
  have x1 : w1.cell? ⟨w.heap.size, 1, none⟩ = some (.slice A n c) := q1.get 1 rfl
  have B1 := Lib.hid b1
  have Q1 := Lib.hid q1
  have Q2 := Lib.hid q2
  have HS1 := Lib.hid ((HS.out.below b1 (Nat.le_refl _)).more b1.size)
  clear b1 b1' q1 q2
  go_upto_region 3 with (go_at_call 59; refine (ok_any _ _).mono ?_; rintro e w' ⟨rfl, rfl⟩)
  go_cut [6] (fun s6 wx => CopyP cum zs n w1 wx s6)
  case first =>
    go_region_held3 (fun w' => w'.cell? ⟨w.heap.size, 0, none⟩ = some (.int .i64 cum) ∧ w'.cell? ⟨w.heap.size, 1, none⟩ = some (.slice A n c)) (first | exact ⟨x0, x1⟩ | exact ⟨r0, r1⟩ | exact ⟨((Q2'.out.far (Nat.ne_of_lt (by simp; omega)) _).far (Nat.ne_of_lt (by simp; omega)) _).get 0 rfl, ((Q2'.out.far (Nat.ne_of_lt (by simp; omega)) _).far (Nat.ne_of_lt (by simp; omega)) _).get 1 rfl⟩ | go_keep)
      (first
        | ((refine step_copy ((w1.alloc (.cells #[] 3)).drew) (by rfl) _ _ _ (by rfl) w1.heap.size 3 i0 (.int .i64 0) 1 8 Try.underlying24 hi hz0 hz1 hz2 rfl (by decide) (some ⟨w1.heap.size, 0, none⟩) 0 (by rfl) (Own.made w1 w1.heap.size 3 1 #[] 0 (Nat.le_refl _) (by unfold maxLen; omega) rfl).drew w1.heap.size A n c (ints zs) (by rfl) ((HS1.out.alloc (Nat.le_refl _) _).drew) (by rw [ints_len, HN.out, Nat.mul_one]) (ints_one zs) (by unfold maxLen; omega) (by omega) (by simp only [World.size_alloc, World.size_drew]; omega) ?_); intro A2 c2 row w2 o2 g2 r2 d2; have O2 := Lib.hid o2; have D2 := Lib.hid d2; have G2 := Lib.hid g2; have R2 := Lib.hid r2; have B2 := Lib.hid (below_at (((Below.refl w1.heap.size w1).alloc (Nat.le_refl _) _).drew) (by simp only [World.size_alloc, World.size_drew]; omega) g2 r2 (fun a ha => by injection ha with ha; subst ha; simp)); have Q2' := Lib.hid (blk_at ((Q1.out.alloc _).drew) g2 r2 (fun a ha => by injection ha with ha; subst ha; have := Q1.out.lt; simp; omega)); have r0 : w2.cell? ⟨w.heap.size, 0, none⟩ = some (.int .i64 cum) := Q2'.out.get 0 rfl; have r1 : w2.cell? ⟨w.heap.size, 1, none⟩ = some (.slice A n c) := Q2'.out.get 1 rfl; clear o2 g2 r2 d2)
        | ((refine step_copy (((w1.alloc (.cells #[] 3)).alloc (.cells #[.int .i64 0, .slice none 0 0] 26)).drew) (by rfl) _ _ _ (by rfl) w1.heap.size 3 i0 (.int .i64 0) 1 8 Try.underlying24 hi hz0 hz1 hz2 rfl (by decide) (some ⟨w1.heap.size, 0, none⟩) 0 (by rfl) ((Own.made w1 w1.heap.size 3 1 #[] 0 (Nat.le_refl _) (by unfold maxLen; omega) rfl).alloc _).drew w1.heap.size A n c (ints zs) (by rfl) (((HS1.out.alloc (Nat.le_refl _) _).alloc (by simp) _).drew) (by rw [ints_len, HN.out, Nat.mul_one]) (ints_one zs) (by unfold maxLen; omega) (by omega) (by simp only [World.size_alloc, World.size_drew]; omega) ?_); intro A2 c2 row w2 o2 g2 r2 d2; have O2 := Lib.hid o2; have D2 := Lib.hid d2; have G2 := Lib.hid g2; have R2 := Lib.hid r2; have B2 := Lib.hid (below_at ((((Below.refl w1.heap.size w1).alloc (Nat.le_refl _) _).alloc (by simp) _).drew) (by simp only [World.size_alloc, World.size_drew]; omega) g2 r2 (fun a ha => by injection ha with ha; subst ha; simp)); have Q2' := Lib.hid (blk_at (((Q1.out.alloc _).alloc _).drew) g2 r2 (fun a ha => by injection ha with ha; subst ha; have := Q1.out.lt; simp; omega)); have r0 : w2.cell? ⟨w.heap.size, 0, none⟩ = some (.int .i64 cum) := Q2'.out.get 0 rfl; have r1 : w2.cell? ⟨w.heap.size, 1, none⟩ = some (.slice A n c) := Q2'.out.get 1 rfl; have QB : Blk w2 (w1.heap.size + 1) #[.int .i64 0, .slice none 0 0] 26 := blk_at (by have h := (Blk.new (w1.alloc (.cells #[] 3)) #[.int .i64 0, .slice none 0 0] 26).drew; simpa using h) g2 r2 (fun a ha => by injection ha with ha; subst ha; simp); have k0 : w2.cell? ⟨w1.heap.size + 1, 0, none⟩ = some (.int .i64 0) := QB.get 0 rfl; have k1 : w2.cell? ⟨w1.heap.size + 1, 1, none⟩ = some (.slice none 0 0) := QB.get 1 rfl; have kf0 := QB.frozen 0; have kf1 := QB.frozen 1; have QBh := Lib.hid QB; clear QB o2 g2 r2 d2)
        | ((refine step_copy (((w1.alloc (.cells #[.int .i64 0, .slice none 0 0] 26)).alloc (.cells #[] 3)).drew) (by rfl) _ _ _ (by rfl) w1.heap.size 3 i0 (.int .i64 0) 1 8 Try.underlying24 hi hz0 hz1 hz2 rfl (by decide) (some ⟨w1.heap.size + 1, 0, none⟩) 0 (by rfl) (by have h := (Own.made (w1.alloc (.cells #[.int .i64 0, .slice none 0 0] 26)) w1.heap.size 3 1 #[] 0 (by simp) (by unfold maxLen; omega) rfl).drew; simpa using h) w1.heap.size A n c (ints zs) (by rfl) (((HS1.out.alloc (Nat.le_refl _) _).alloc (by simp) _).drew) (by rw [ints_len, HN.out, Nat.mul_one]) (ints_one zs) (by unfold maxLen; omega) (by omega) (by simp only [World.size_alloc, World.size_drew]; omega) ?_); intro A2 c2 row w2 o2 g2 r2 d2; have O2 := Lib.hid o2; have D2 := Lib.hid d2; have G2 := Lib.hid g2; have R2 := Lib.hid r2; have B2 := Lib.hid (below_at ((((Below.refl w1.heap.size w1).alloc (Nat.le_refl _) _).alloc (by simp) _).drew) (by simp only [World.size_alloc, World.size_drew]; omega) g2 r2 (fun a ha => by injection ha with ha; subst ha; simp)); have Q2' := Lib.hid (blk_at (((Q1.out.alloc _).alloc _).drew) g2 r2 (fun a ha => by injection ha with ha; subst ha; have := Q1.out.lt; simp; omega)); have r0 : w2.cell? ⟨w.heap.size, 0, none⟩ = some (.int .i64 cum) := Q2'.out.get 0 rfl; have r1 : w2.cell? ⟨w.heap.size, 1, none⟩ = some (.slice A n c) := Q2'.out.get 1 rfl; have QB : Blk w2 w1.heap.size #[.int .i64 0, .slice none 0 0] 26 := blk_at ((Blk.new w1 #[.int .i64 0, .slice none 0 0] 26).alloc _).drew g2 r2 (fun a ha => by injection ha with ha; subst ha; simp); have k0 : w2.cell? ⟨w1.heap.size, 0, none⟩ = some (.int .i64 0) := QB.get 0 rfl; have k1 : w2.cell? ⟨w1.heap.size, 1, none⟩ = some (.slice none 0 0) := QB.get 1 rfl; have kf0 := QB.frozen 0; have kf1 := QB.frozen 1; have QBh := Lib.hid QB; clear QB o2 g2 r2 d2))
    · go_wp2_with fail
      go_meet
      exact ⟨w2.heap.size, A2, c2, rfl, Blk.new w2 _ _, O2.out.alloc _, B2.out.alloc B2.out.size _, B2.out.size⟩
    all_goals
      go_wp2_with fail
      go_meet
      refine ⟨_, A2, c2, rfl, ?_, (O2.out.set_ne (O2.out.ne_blk QBh.out (by decide)) _).set_ne (O2.out.ne_blk QBh.out (by decide)) _, (B2.out.setCell (by simp) _).setCell (by simp) _, by simp⟩
      have h := (QBh.out.set_ 0 (.int .i64 cum)).set_ 1 (.slice A2 n c2)
      simpa using h
  case rest =>
    obtain ⟨g, A2, c2, rfl, q6, o2, b2, hg⟩ := hcut
    have hsw := Lib.hid b2.size
    have Q1c := Lib.hid (Q1.out.below b2 Q1.out.lt)
    have Q2c := Lib.hid (Q2.out.below b2 Q2.out.lt)
    have x0 : wc.cell? ⟨w.heap.size, 0, none⟩ = some (.int .i64 cum) := Q1c.out.get 0 rfl
    have x1 : wc.cell? ⟨w.heap.size, 1, none⟩ = some (.slice A n c) := Q1c.out.get 1 rfl
    have y0 : wc.cell? ⟨w.heap.size + 1, 0, none⟩ = some (.int .i64 0) := Q2c.out.get 0 rfl
    have y1 : wc.cell? ⟨w.heap.size + 1, 1, none⟩ = some (.slice none 0 0) := Q2c.out.get 1 rfl
    have f0 := Q2c.out.frozen 0
    have f1 := Q2c.out.frozen 1
    have v0 : wc.cell? ⟨g, 0, none⟩ = some (.int .i64 cum) := q6.get 0 rfl
    have v1 : wc.cell? ⟨g, 1, none⟩ = some (.slice A2 n c2) := q6.get 1 rfl
    have hgl := q6.lt
    have hN := Q2c.out.lt
    have Q6 := Lib.hid q6
    have O2 := Lib.hid o2
    have BC := Lib.hid (bstep B1.out b2 B1.out.size)
    have HSc := Lib.hid ((HS1.out.below b2 (Nat.le_refl _)).more b2.size)
    clear q6 o2 b2
    have hN0 := Q1c.out.lt
    by_cases h3 : sdiff cum tsn ≤ 0
    · go_wp2_with (go_at_call 46; refine (idiff_ok _ _ hc h2 _).mono ?_; rintro e w' ⟨rfl, rfl⟩)
      refine bodyPost_ret (v := .tuple #[.agg #[.int .i64 cum, .slice A2 n c2], .int .i64 1]) (by simp [results, Try.results51, go_sem, y0, y1]) rfl ?_
      rw [sap1 (sa1 h1 h2 (by rw [decide_eq_true h3]; rfl)), HN.out]
      exact ⟨_, _, rfl, ((O2.out.setLow (by simp; omega) _).setLow (by simp; omega) _).lower (by omega), (BC.out.setCell (by simp) _).setCell (by simp) _⟩
    · have hmem := Lib.hid (seenOk_mem h1)
      have n0 : 0 < sdiff cum tsn := by omega
      go_wp2_with (go_at_call 46; refine (idiff_ok _ _ hc h2 _).mono ?_; rintro e w' ⟨rfl, rfl⟩)
      go_loopw [41] (fun i wr => ∃ k : Nat, k ≤ n ∧ i = .int .i64 k ∧ Blk wr wc.heap.size (hv (zs.take k)) 86 ∧ (wc.alloc (.cells (hv []) 86)).grownBy wr (some wc.heap.size)) (fun i _ => n - (intOf i).toNat)
      case atStart => exact ⟨0, by omega, rfl, by rw [List.take_zero, hv_nil]; exact Blk.new _ _ _, by rw [hv_nil]; exact World.grownBy.refl _ _⟩
      case round =>
        obtain ⟨k, hk, rfl, hq, hg'⟩ := hrel
        have HQ := Lib.hid hq
        have HG := Lib.hid hg'
        clear hq hg'
        by_cases hlt : k < n
        · obtain ⟨z, hz⟩ := get_of_lt (xs := zs) (k := k) (by rw [HN.out]; exact hlt)
          obtain ⟨z0, z1'⟩ := hmem.out z (List.mem_of_getElem? hz)
          obtain ⟨b, off, rfl, hbl, hcl⟩ := ((HSc.out.alloc (Nat.le_refl _) _).grown HG.out (by simp) (fun g' e => by injection e; omega)).at_ (j := k) (by rw [ints_len, HN.out]; exact hlt)
          have e1 := hcl k _ (ints_at_ hz)
          have e2 := HQ.out.get z.toNat (hv_get _ _ (by omega))
          have e3 := HQ.out.frozen z.toNat
          have HZ := Lib.hid hz
          clear hcl hbl hz
          go_wp2
          go_roundw
          case rel =>
            refine ⟨k + 1, by omega, by go_num, ?_, gb_setCell HG.out (.inl rfl) _⟩
            have h := HQ.out.set_ z.toNat (.bool true)
            rw [hv_set _ z (by omega) (by omega), ← take_succ_of HZ.out] at h
            exact h
          case measure => simp [intOf]; omega
        · have hkn : k = n := by omega
          have HQn := Lib.hid (by have h := HQ.out; rw [List.take_of_length_le (by rw [HN.out]; omega)] at h; exact h)
          have Q1r := Lib.hid ((Q1c.out.alloc (.cells (hv []) 86)).grown HG.out (by simp; omega))
          have Q2r := Lib.hid ((Q2c.out.alloc (.cells (hv []) 86)).grown HG.out (by simp; omega))
          have Q6r := Lib.hid ((Q6.out.alloc (.cells (hv []) 86)).grown HG.out (by simp; omega))
          have O2r := Lib.hid ((O2.out.alloc (.cells (hv []) 86)).grown HG.out (fun a ha => by have := (O2.out.blk a ha).2.1; simp; omega))
          have BR := Lib.hid (below_of_alloc HG.out (fun k hk => by injection hk; omega))
          have x0 : wr.cell? ⟨w.heap.size, 0, none⟩ = some (.int .i64 cum) := Q1r.out.get 0 rfl
          have x1 : wr.cell? ⟨w.heap.size, 1, none⟩ = some (.slice A n c) := Q1r.out.get 1 rfl
          have y0 : wr.cell? ⟨w.heap.size + 1, 0, none⟩ = some (.int .i64 0) := Q2r.out.get 0 rfl
          have y1 : wr.cell? ⟨w.heap.size + 1, 1, none⟩ = some (.slice none 0 0) := Q2r.out.get 1 rfl
          have f0 := Q2r.out.frozen 0
          have f1 := Q2r.out.frozen 1
          have v0 : wr.cell? ⟨g, 0, none⟩ = some (.int .i64 cum) := Q6r.out.get 0 rfl
          have v1 : wr.cell? ⟨g, 1, none⟩ = some (.slice A2 n c2) := Q6r.out.get 1 rfl
          by_cases hb : hasB zs (sdiff cum tsn) = true
          · obtain ⟨m0, m1⟩ := hmem.out _ (hasB_mem.1 hb)
            have ec : wr.cell? ⟨wc.heap.size, (sdiff cum tsn).toNat, none⟩ = some (.bool true) := HQn.out.get _ (by rw [hv_get _ _ (by omega), Int.toNat_of_nonneg (by omega), hb])
            have hb' := Lib.hid hb
            clear hb
            go_wp2
            refine bodyPost_ret (v := .tuple #[.agg #[.int .i64 cum, .slice A2 n c2], .int .i64 1]) (by simp [results, Try.results51, go_sem, y0, y1]) rfl ?_
            rw [sap1 (sa1 h1 h2 (by rw [hb'.out, Bool.or_true])), HN.out]
            exact ⟨_, _, rfl, ((O2r.out.setLow (by simp; omega) _).setLow (by simp; omega) _).lower (by omega), ((bstep BC.out BR.out BC.out.size).setCell (by simp) _).setCell (by simp) _⟩
          · have hb' := Lib.hid (by simpa using hb : hasB zs (sdiff cum tsn) = false)
            by_cases hf : 16 < sdiff cum tsn
            · clear hb
              go_wp2
              refine bodyPost_ret (v := .tuple #[.agg #[.int .i64 cum, .slice A2 n c2], .int .i64 2]) (by simp [results, Try.results51, go_sem, y0, y1]) rfl ?_
              rw [sap2 (sa2 h1 h2 (by rw [hb'.out, decide_eq_false (by omega)]; rfl) hf), HN.out]
              exact ⟨_, _, rfl, ((O2r.out.setLow (by simp; omega) _).setLow (by simp; omega) _).lower (by omega), ((bstep BC.out BR.out BC.out.size).setCell (by simp) _).setCell (by simp) _⟩
            · have ec : wr.cell? ⟨wc.heap.size, (sdiff cum tsn).toNat, none⟩ = some (.bool false) := HQn.out.get _ (by rw [hv_get _ _ (by omega), Int.toNat_of_nonneg (by omega), hb'.out])
              have ef := HQn.out.frozen (sdiff cum tsn).toNat
              clear hb
              have HE := Lib.hid (by
                have h := HQn.out.set_ (sdiff cum tsn).toNat (.bool true)
                rw [hv_set _ _ (by omega) (by omega)] at h
                exact h : Blk (wr.setCell ⟨wc.heap.size, (sdiff cum tsn).toNat, none⟩ (.bool true)) wc.heap.size (hv (saAll cum zs tsn)) 86)
              have Q1e := Lib.hid (Q1r.out.far (p := ⟨wc.heap.size, (sdiff cum tsn).toNat, none⟩) (Nat.ne_of_lt hN0) (.bool true))
              have Q2e := Lib.hid (Q2r.out.far (p := ⟨wc.heap.size, (sdiff cum tsn).toNat, none⟩) (Nat.ne_of_lt hN) (.bool true))
              have BE := Lib.hid ((bstep BC.out BR.out BC.out.size).setCell (p := ⟨wc.heap.size, (sdiff cum tsn).toNat, none⟩) (by show w.heap.size ≤ wc.heap.size; omega) (.bool true))
              have h17 := Lib.hid (all17 h1 (Int.not_lt.1 hf))
              go_wp2
              generalize (wr.setCell ⟨wc.heap.size, (sdiff cum tsn).toNat, none⟩ (.bool true)) = wo at HE Q1e Q2e BE ⊢
              clear HQ HQn HG Q1r Q2r Q6r O2r BR x0 x1 y0 y1 f0 f1 v0 v1 ec ef hN hN0 hgl Q6 O2 HSc Q1c Q2c
              go_loop [11] (fun mv => ∃ m : Nat, m ≤ 16 ∧ mv = .int .i64 m ∧ Hid (moved (saAll cum zs tsn) = moveN (saAll cum zs tsn) (16 - m) m)) (fun mv => 16 - (intOf mv).toNat)
              case atStart => exact ⟨0, by omega, rfl, Lib.hid rfl⟩
              case round =>
                obtain ⟨m, hm16, rfl, hmv⟩ := hrel
                by_cases hbm : hasB (saAll cum zs tsn) ((m : Int) + 1) = true
                · have e1 : wo.cell? ⟨wc.heap.size, m + 1, none⟩ = some (.bool true) := HE.out.get _ (by rw [hv_get _ _ (by omega), Int.natCast_add, Int.natCast_one, hbm])
                  have hm15 : m < 16 := by
                    rcases Nat.lt_or_ge m 16 with h | h
                    · exact h
                    · have : m = 16 := by omega
                      subst this
                      have := h17.out
                      rw [show ((16 : Nat) : Int) + 1 = 17 from rfl] at hbm
                      rw [hbm] at this
                      cases this
                  have HM := Lib.hid (hmv.out.trans (move_yes hm15 hbm))
                  clear hmv hbm
                  go_wp2
                  go_round
                  case rel => exact ⟨m + 1, by omega, by go_num, HM⟩
                  case measure => simp [intOf]; omega
                · have hbm' : hasB (saAll cum zs tsn) ((m : Int) + 1) = false := by simpa using hbm
                  have e1 : wo.cell? ⟨wc.heap.size, m + 1, none⟩ = some (.bool false) := HE.out.get _ (by rw [hv_get _ _ (by omega), Int.natCast_add, Int.natCast_one, hbm'])
                  have HM := Lib.hid (hmv.out.trans (move_no hbm'))
                  have x0 : wo.cell? ⟨w.heap.size, 0, none⟩ = some (.int .i64 cum) := Q1e.out.get 0 rfl
                  clear hmv hbm hbm'
                  go_wp2_with (go_at_call 25; refine (iadd_any _ _ _).mono ?_; rintro e w' ⟨rfl, rfl⟩)
                  clear e1 x0
                  have le1 := Lib.hid (fun k => extraTo_len (saAll cum zs tsn) m k)
                  go_loopw [13] (fun i wr => ∃ (k : Nat) (A3 : Option Addr) (c3 : Nat), m + 1 ≤ k ∧ k ≤ 17 ∧ i = .int .i64 k ∧ Blk wr wo.heap.size #[.int .i64 (sadd cum m), .slice A3 (extraTo (saAll cum zs tsn) m k).length c3] 26 ∧ Own wr wo.heap.size 3 1 A3 (extraTo (saAll cum zs tsn) m k).length c3 (ints (extraTo (saAll cum zs tsn) m k)) ∧ Below wo.heap.size wo wr) (fun i _ => 17 - (intOf i).toNat)
                  case atStart => exact ⟨m + 1, none, 0, by omega, by omega, by simp, by rw [extraTo_start]; exact Blk.new _ _ _, by rw [extraTo_start]; exact Own.nil _ _ _ _, (Below.refl _ _).alloc (Nat.le_refl _) _⟩
                  case round =>
                    obtain ⟨k, A3, c3, hk0, hk1, rfl, hq3, ho3, hb3⟩ := hrel
                    have Q3 := Lib.hid hq3
                    have O3 := Lib.hid ho3
                    have B3 := Lib.hid hb3
                    have hlen := le1.out k
                    clear hq3 ho3 hb3
                    by_cases hk : k ≤ 16
                    · have hk' : (k : Int) ≤ 16 := by omega
                      by_cases hbk : hasB (saAll cum zs tsn) (k : Int) = true
                      · have e1 : wr.cell? ⟨wc.heap.size, k, none⟩ = some (.bool true) := (HE.out.below B3.out HE.out.lt).get _ (by rw [hv_get _ _ (by omega), hbk])
                        have u0 : wr.cell? ⟨wo.heap.size, 0, none⟩ = some (.int .i64 (sadd cum m)) := Q3.out.get 0 rfl
                        have u1 : wr.cell? ⟨wo.heap.size, 1, none⟩ = some (.slice A3 (extraTo (saAll cum zs tsn) m k).length c3) := Q3.out.get 1 rfl
                        have hst := Lib.hid (extraTo_step (saAll cum zs tsn) m k (by omega))
                        have hbk' := Lib.hid hbk
                        have hwl := Q3.out.lt
                        clear hbk
                        go_wp2_with (at_builtin; refine wpList_app _ rfl _ _ _ rfl wo.heap.size 3 i0 (.int .i64 0) 1 8 Try.underlying24 hi hz0 hz1 hz2 rfl (by decide) A3 (extraTo (saAll cum zs tsn) m k).length c3 (ints (extraTo (saAll cum zs tsn) m k)) rfl (O3.out.alloc _) (wr.heap.size + 1) (some ⟨wr.heap.size, 0, none⟩) 1 1 (ints [(k : Int) - m]) rfl (sl_new rfl) rfl (ints_one _) (by unfold maxLen; omega) (by omega) (by simp; omega) ?_; intro A4 c4 row w4 o4 g4 r4 d4; have O4 := Lib.hid o4; have Q4 := Lib.hid (blk_at (Q3.out.alloc _) g4 r4 (O3.out.ne_blk Q3.out (by decide))); have B4 := Lib.hid (below_at (B3.out.alloc (by omega) _) (by simp; omega) g4 r4 (fun a ha => (O3.out.blk a ha).1)); have t0 : w4.cell? ⟨wo.heap.size, 0, none⟩ = some (.int .i64 (sadd cum m)) := Q4.out.get 0 rfl; have t1 : w4.cell? ⟨wo.heap.size, 1, none⟩ = some (.slice A3 (extraTo (saAll cum zs tsn) m k).length c3) := Q4.out.get 1 rfl; have tf := Q4.out.frozen 1; clear o4 g4 r4 d4)
                        go_roundw
                        case rel =>
                          have hnew : extraTo (saAll cum zs tsn) m (k + 1) = extraTo (saAll cum zs tsn) m k ++ [(k : Int) - m] := by rw [hst.out, if_pos hbk'.out]
                          refine ⟨k + 1, A4, c4, by omega, by omega, by go_num, ?_, ?_, B4.out.setCell (Nat.le_refl _) _⟩
                          · rw [hnew, List.length_append]
                            have h := Q4.out.set_ 1 (.slice A4 ((extraTo (saAll cum zs tsn) m k).length + 1) c4)
                            simpa using h
                          · rw [hnew, List.length_append]
                            have h := O4.out.set_ne (p := ⟨wo.heap.size, 1, none⟩) (O4.out.ne_blk Q4.out (by decide)) (.slice A4 ((extraTo (saAll cum zs tsn) m k).length + 1) c4)
                            simpa [ints] using h
                        case measure => simp [intOf]; omega
                      · have hbk2 : hasB (saAll cum zs tsn) (k : Int) = false := by simpa using hbk
                        have e1 : wr.cell? ⟨wc.heap.size, k, none⟩ = some (.bool false) := (HE.out.below B3.out HE.out.lt).get _ (by rw [hv_get _ _ (by omega), hbk2])
                        have hnew := Lib.hid (by rw [extraTo_step (saAll cum zs tsn) m k (by omega), if_neg hbk, List.append_nil] : extraTo (saAll cum zs tsn) m (k + 1) = extraTo (saAll cum zs tsn) m k)
                        clear hbk hbk2
                        go_wp2
                        go_roundw
                        case rel => exact ⟨k + 1, A3, c3, by omega, by omega, by go_num, by rw [hnew.out]; exact Q3.out, by rw [hnew.out]; exact O3.out, B3.out⟩
                        case measure => simp [intOf]; omega
                    · have hk' : ¬ (k : Int) ≤ 16 := by omega
                      have hk17 : k = 17 := by omega
                      have u0 : wr.cell? ⟨wo.heap.size, 0, none⟩ = some (.int .i64 (sadd cum m)) := Q3.out.get 0 rfl
                      have u1 : wr.cell? ⟨wo.heap.size, 1, none⟩ = some (.slice A3 (extraTo (saAll cum zs tsn) m k).length c3) := Q3.out.get 1 rfl
                      have Q2w := Lib.hid (Q2e.out.below B3.out Q2e.out.lt)
                      have y0 : wr.cell? ⟨w.heap.size + 1, 0, none⟩ = some (.int .i64 0) := Q2w.out.get 0 rfl
                      have y1 : wr.cell? ⟨w.heap.size + 1, 1, none⟩ = some (.slice none 0 0) := Q2w.out.get 1 rfl
                      have f0 := Q2w.out.frozen 0
                      have f1 := Q2w.out.frozen 1
                      have H17 := Lib.hid hk17
                      have hlo := Q2e.out.lt
                      clear hk17
                      go_wp2
                      refine bodyPost_ret (v := .tuple #[.agg #[.int .i64 (sadd cum m), .slice A3 (extraTo (saAll cum zs tsn) m k).length c3], .int .i64 0]) (by simp [results, Try.results51, go_sem, y0, y1]) rfl ?_
                      rw [sap0 (sa0 h1 h2 (by rw [hb'.out, decide_eq_false (by omega)]; rfl) (Int.not_lt.2 hf)), HM.out, ← H17.out]
                      exact ⟨_, _, rfl, ((O3.out.setLow (by simp; omega) _).setLow (by simp; omega) _).lower (by omega), ((BE.out.trans (B3.out.mono (by omega))).setCell (by simp) _).setCell (by simp) _⟩
theorem iseen_add (cum : Int) (A : Option Addr) (n c : Nat) (zs : List Int) (tsn : Int) (w : World) (hs : Sl w w.heap.size A (ints zs)) (hn : zs.length = n) (hm : n ≤ 9223372036854775807) :
    Calls Try.prog 51 #[.agg #[.int .i64 cum, .slice A n c], .int .i64 tsn] w (SeenAddP cum zs tsn w) := by
  by_cases h1 : seenOk cum zs = true
  · by_cases h2 : okB tsn = true
    · exact iadd_ok cum A n c zs tsn w hs hn h1 h2
    · exact iadd_3 cum A n c zs tsn w hs hn hm (.inr (by simpa using h2))
  · exact iadd_3 cum A n c zs tsn w hs hn hm (.inl (by simpa using h1))
end Go.Proofs.Ytglebkjhfofkcaa
