/-
  What the program's CapturePut returns. Conditions: the list can be read.
-/
import Derived.Test.YtmphkogaclfjmaaCapW
import Derived.Test.YtmphkogaclfjmaaDrawC
import Derived.Lib.SlBytesConst
namespace Go.Proofs.Ytmphkogaclfjmaa
open Go.ChangeShapes Go.WideShapes Go.ChangeAt Go.RowKit Go.Lib
set_option linter.unusedVariables false

def byteC (l : List UInt8) : List Value := l.map fun b => Value.int .u8 (b.toNat : Int)
theorem byteC_len (l : List UInt8) : (byteC l).length = l.length := by simp [byteC]
theorem byteC_app (a b : List UInt8) : byteC (a ++ b) = byteC a ++ byteC b := by unfold byteC; rw [List.map_append]
/-- Own, or a row that is full and can be read. -/
def OwnF (w : World) (base : Nat) (e : TypeId) (g n c : Nat) (xs : List Value) : Prop :=
  Own w base e 1 (some ⟨g, 0, none⟩) n c xs ∨ (c = n ∧ xs.length = n ∧ base ≤ g ∧ g < w.heap.size ∧ n ≤ maxLen ∧ Sl w w.heap.size (some ⟨g, 0, none⟩) xs)
theorem OwnF.below {w w' : World} {base : Nat} {e : TypeId} {g n c : Nat} {xs : List Value} (h : OwnF w base e g n c xs) (hb : Below w.heap.size w w') : OwnF w' base e g n c xs := by
  rcases h with h | ⟨h1, h2, h3, h4, h5, h6⟩
  · exact .inl (h.below hb (Nat.le_refl _))
  · exact .inr ⟨h1, h2, h3, Nat.lt_of_lt_of_le h4 hb.size, h5, (h6.below hb (Nat.le_refl _)).more hb.size⟩
theorem OwnF.alloc {w : World} {base : Nat} {e : TypeId} {g n c : Nat} {xs : List Value} (h : OwnF w base e g n c xs) (o : Obj) : OwnF (w.alloc o) base e g n c xs := h.below ((Below.refl _ w).alloc (Nat.le_refl _) o)
theorem OwnF.sl {w : World} {base : Nat} {e : TypeId} {g n c : Nat} {xs : List Value} (h : OwnF w base e g n c xs) : Sl w w.heap.size (some ⟨g, 0, none⟩) xs := by
  rcases h with h | h
  · exact h.sl
  · exact h.2.2.2.2.2
theorem OwnF.base_le {w : World} {base : Nat} {e : TypeId} {g n c : Nat} {xs : List Value} (h : OwnF w base e g n c xs) : base ≤ g := by
  rcases h with h | h
  · exact (h.blk _ rfl).1
  · exact h.2.2.1
theorem OwnF.sl_lt {w : World} {base : Nat} {e : TypeId} {g n c : Nat} {xs : List Value} (h : OwnF w base e g n c xs) (hx : 0 < xs.length) : g < w.heap.size := by
  obtain ⟨b, off, e1, hb, _⟩ := h.sl.at_ hx
  injection e1 with e1
  injection e1 with e1 e2
  subst e1
  exact hb
theorem own_of_cells {w : World} (base : Nat) (e : TypeId) (C : Array Value) (n cap : Nat) (xs : List Value) (hb : base ≤ w.heap.size) (hC : C.size = cap) (hn : n ≤ cap) (hm : cap ≤ maxLen) (hl : xs.length = n) (ht : C.toList.take n = xs) :
    Own (w.alloc (.cells C e)) base e 1 (some ⟨w.heap.size, 0, none⟩) n cap xs :=
  ⟨by rw [hl, Nat.mul_one], .inr ⟨w.heap.size, cap, C, rfl, hb, heap_alloc_new w _, hn, hm, by rw [hC, Nat.mul_one], by rw [Nat.mul_one]; exact ht⟩⟩
section
variable {P : Program} (w : World)
theorem wpList_apps {ops : Array Oper} {rest : List Oper} {o : Oper} {a : Act} {Q : Exit → Act → World → Prop} (hgd : o.guard = none) (sl x : Operand) (t u : TypeId)
    (ho : o.op = .call { callee := .builtin .append, args := #[sl, x], argTypes := #[t, u] })
    (base : Nat) (e : TypeId) (i : TypeInfo) (ht : P.underlying t = some (.slice e)) (hu : P.underlying u = some .string) (hi : P.info? e = some i) (hz : i.zero = some (.int .u8 0))
    (hsize : i.size = 1) (hby : i.bytes = 1)
    (A : Option Addr) (n c : Nat) (xs : List Value) (hs : a.eval sl = .slice A n c) (hown : Own w base e 1 A n c xs) (s : ByteArray) (hx : a.eval x = .string s)
    (h63 : n + s.size ≤ maxLen) (hbytes : n + s.size ≤ 140737488355328) (hbase : base ≤ w.heap.size)
    (h : ∀ A' c' row w', Own w' base e 1 A' (n + s.size) c' (xs ++ byteC (bl s)) → w.grownBy w' row → AtRow A row → wpList P ops Q rest (a.put o.dst (.slice A' (n + s.size) c')) w') : wpList P ops Q (o :: rest) a w := by
  refine wpList_append_own_string w hgd sl x t u ho base e i ht hu hi hz hsize hby (.slice A n c) n xs hs hown s hx h63 hbytes hbase fun v' w' h2 h3 _ => ?_
  have hv : ∃ A' c', v' = .slice A' (n + s.size) c' := by
    rcases h2.2 with ⟨hv, h0⟩ | ⟨g, cap, cur, hv, _⟩
    · exact ⟨none, 0, by rw [hv, h0]⟩
    · exact ⟨_, _, hv⟩
  obtain ⟨A', c', rfl⟩ := hv
  exact h A' c' _ w' h2 h3 (atRow_own A n c)
theorem wpList_appsF {ops : Array Oper} {rest : List Oper} {o : Oper} {a : Act} {Q : Exit → Act → World → Prop} (hgd : o.guard = none) (sl x : Operand) (t u : TypeId)
    (ho : o.op = .call { callee := .builtin .append, args := #[sl, x], argTypes := #[t, u] })
    (base : Nat) (e : TypeId) (i : TypeInfo) (ht : P.underlying t = some (.slice e)) (hu : P.underlying u = some .string) (hi : P.info? e = some i) (hz : i.zero = some (.int .u8 0))
    (hsize : i.size = 1) (hby : i.bytes = 1)
    (g n c : Nat) (xs : List Value) (hs : a.eval sl = .slice (some ⟨g, 0, none⟩) n c) (hown : OwnF w base e g n c xs) (s : ByteArray) (hx : a.eval x = .string s) (hpos : 0 < s.size)
    (h63 : n + s.size ≤ maxLen) (hbytes : n + s.size ≤ 140737488355328) (hbase : base ≤ w.heap.size)
    (h : ∀ A' c' row w', Own w' base e 1 A' (n + s.size) c' (xs ++ byteC (bl s)) → w.grownBy w' row → AtRow (some ⟨g, 0, none⟩) row → wpList P ops Q rest (a.put o.dst (.slice A' (n + s.size) c')) w') : wpList P ops Q (o :: rest) a w := by
  rcases hown with hown | ⟨rfl, hl, hbg, hgl, hcm, hsl⟩
  · exact wpList_apps w hgd sl x t u ho base e i ht hu hi hz hsize hby _ n c xs hs hown s hx h63 hbytes hbase h
  · refine wpList_plain hgd fun K hK => ?_
    have h63' : c + s.size ≤ 9223372036854775807 := by simp only [maxLen] at h63; omega
    have holds : ∀ j v, xs[j]? = some v → w.cell? ((⟨g, 0, none⟩ : Addr).add j) = some v := by
      intro j v hv
      obtain ⟨b, off, e1, _, hc⟩ := hsl j v hv
      injection e1 with e1
      injection e1 with e1 e2
      subst e1 e2
      have hadd : (⟨g, 0, none⟩ : Addr).add j = ⟨g, 0 + j, none⟩ := by unfold Addr.add; split <;> simp_all
      rw [hadd]
      exact hc
    have hr := run_append_grow_string (P := P) w t u o.type e i (.int .u8 0) ht hu hi hz ⟨g, 0, none⟩ c c xs (by rw [hsize, Nat.mul_one]; exact hl) holds s (by omega) (by omega) (by rw [hby]; exact growslice_fits (by omega) (by omega))
    unfold Oper.wp execOp
    simp only [ho, resolve, invoke, builtin, Sem.run_bind, Sem.run_pure, Result.andThen_ok, List.map_toArray, List.map_cons, List.map_nil, hs, hx, hr]
    have hge := grownCap_ge w (c + s.size) c e
    have hcp : grownCap w (c + s.size) c e ≤ maxLen := grownCap_le_maxLen w (c + s.size) c e h63
    refine hK _ _ (h _ _ none _ (own_of_cells (w := w.drew) base e _ (c + s.size) _ (xs ++ byteC (bl s)) hbase ?_ hge hcp ?_ ?_) ⟨rfl, rfl, rfl, by simp, fun k hk _ => Below.heap_alloc w.drew _ k hk⟩ (fun k hk => by cases hk))
    · have hz1 : (Value.int IntKind.u8 0).cells.size = 1 := rfl
      simp only [Array.size_append, List.size_toArray, size_zeroCells, hz1, hl, strCells_length]
      omega
    · rw [List.length_append, hl, byteC_len, bl_len]
    · have e1 : strCells s = byteC (bl s) := rfl
      have e2 : (xs ++ byteC (bl s)).length = c + s.size := by rw [List.length_append, hl, byteC_len, bl_len]
      simp only [Array.toList_append, e1]
      rw [← e2]
      exact List.take_left
end
theorem conv_bytes {w : World} {B gg n c : Nat} {S : List UInt8} (h : Sl w B (some ⟨gg, 0, none⟩) (byteC S)) (hn : S.length = n) :
    (convert 29 9 (.slice (some ⟨gg, 0, none⟩) n c)).run Try.prog w = .ok (.string (mk S)) w := by
  subst hn
  refine run_convert_bytes_back (P := Try.prog) w 29 9 5 ⟨gg, 0, none⟩ c S Try.underlying29 Try.underlying5 Try.underlying9 (fun j hj => ?_)
  have hadd : (⟨gg, 0, none⟩ : Addr).add j = ⟨gg, 0 + j, none⟩ := by unfold Addr.add; split <;> simp_all
  rw [hadd]
  obtain ⟨b, off, e, _, hc⟩ := h j (.int .u8 (S[j].toNat : Int)) (by unfold byteC; rw [List.getElem?_map, List.getElem?_eq_getElem hj]; rfl)
  injection e with e
  injection e with e1 e2
  subst e1 e2
  exact hc
set_option maxHeartbeats 3200000 in
set_option maxRecDepth 100000 in
theorem icap_put (A : Option Addr) (n c : Nat) (l : List Rec) (w : World) (hs : Sl w w.heap.size A (recs l)) (hn : l.length = n) (hm : n ≤ 9223372036854775807) (ht : Txts l) :
    Calls Try.prog 31 #[.slice A n c] w fun e w' => e = .returned (.string (capPut l)) ∧ Below w.heap.size w w' := by
  obtain ⟨i0, hi, hz0, hz1, hz2⟩ := info_parts info_u8
  have kc := fun (w : World) (C : Array Value) (n c : Nat) => Lib.run_convert_bytes_const (P := Try.prog) w 29 5 C n c Try.underlying29 Try.underlying5
  have HS := Lib.hid hs; have HN := Lib.hid hn; have HT := Lib.hid ht; clear hs hn ht
  by_cases h1 : capB l = true
  · obtain ⟨h60, htm⟩ := capB_true h1
    have hn60 : n ≤ 60 := by have := HN.out; omega
    have HM := Lib.hid (timesB_mem htm)
    have HP := Lib.hid (capPut_yes h1)
    have H1 := Lib.hid h1
    clear h1 htm h60
    go_enter Try.func31, Try.ntmps31
    go_wp2_with fail
    refine (icap_valid _ _ _ l _ HS.out HN.out hm HT.out).mono ?_
    rw [H1.out]
    rintro e w1 ⟨rfl, b1⟩
    have B1 := Lib.hid b1
    have HS1 := Lib.hid ((HS.out.below b1 (Nat.le_refl _)).more b1.size)
    clear b1
    go_wp2
    go_loopw [3, 15] (fun o i wr => ∃ (k m g cc : Nat) (S : List UInt8), k ≤ n ∧ i = .int .i64 k ∧ o = .slice (some ⟨g, 0, none⟩) m cc ∧ Hid (S.length = m) ∧ Hid (S = tap ++ allBytes (l.take k)) ∧ m ≤ 4 + 126 * k ∧ 0 < m ∧ OwnF wr w1.heap.size 5 g m cc (byteC S) ∧ Below w1.heap.size w1 wr) (fun _ i _ => n - (intOf i).toNat)
    case atStart =>
      refine ⟨0, 4, w1.heap.size, 4, tap, by omega, rfl, rfl, Lib.hid rfl, Lib.hid (by simp [allBytes]), by omega, by omega, .inr ⟨rfl, rfl, Nat.le_refl _, by simp, by unfold maxLen; omega, ?_⟩, by go_grown⟩
      intro j u hu
      have hj : j < 4 := (List.getElem?_eq_some_iff.1 hu).1
      refine ⟨w1.heap.size, 0, rfl, by simp, ?_⟩
      have hc := cell_of_row (w1.alloc (.cells #[.int .u8 116, .int .u8 97, .int .u8 112, .int .u8 49] 5 (4, 5))) w1.heap.size (0 + j) _ _ _ (heap_alloc_new w1 _)
      refine Eq.trans hc ?_
      match j, hj, hu with
      | 0, _, hu => exact hu
      | 1, _, hu => exact hu
      | 2, _, hu => exact hu
      | 3, _, hu => exact hu
    case round =>
      obtain ⟨k, m, g, cc, S, hk, rfl, rfl, hSl, hS, hmk, hm4, hown, hb⟩ := hrel
      have BR := Lib.hid hb
      have OW := Lib.hid hown
      clear hb hown
      by_cases hlt : k < n
      · obtain ⟨r, hr⟩ := fget_of_lt (xs := l) (k := k) (by rw [HN.out]; exact hlt)
        obtain ⟨m0, m1, m2⟩ := HM.out r (List.mem_of_getElem? hr)
        obtain ⟨b, off, rfl, hbl, e1, e2⟩ := recs_elem ((HS1.out.below BR.out (Nat.le_refl _)).more BR.out.size) hr
        have HA := Lib.hid (allBytes_take hr)
        obtain ⟨t, s⟩ := r
        change 0 ≤ t at m0
        change t ≤ 4294967295 at m1
        change s.size ≤ 120 at m2
        have HK := Lib.hid (show tap ++ allBytes (l.take (k + 1)) = S ++ bl (mk (long t.toNat)) ++ bl (mk (word s.size)) ++ bl s from by rw [HA.out, hS.out, bl_mk, bl_mk]; unfold recBytes; simp only [List.append_assoc])
        have zT : (mk (long t.toNat)).size = 4 := rfl
        have zW : (mk (word s.size)).size = 2 := rfl
        obtain ⟨T, hT⟩ : ∃ T, T = mk (long t.toNat) := ⟨_, rfl⟩
        obtain ⟨U, hU⟩ : ∃ U, U = mk (word s.size) := ⟨_, rfl⟩
        have CL := Lib.hid (fun w => (by rw [hT]; exact ilong_put t m0 m1 w : Calls Try.prog 47 #[.int .i64 t] w fun e w' => e = .returned (.tuple #[.string T, .bool true]) ∧ Below w.heap.size w w'))
        have CW := Lib.hid (fun (w : World) (A : Option Addr) (c : Nat) (hs : Sl w w.heap.size A ([(s.size : Int)].map (Value.int .i64))) => (by
          rw [hU]
          have := iwords A 1 c [(s.size : Int)] w hs rfl (by omega) (fun z hz => by simp at hz; omega)
          simpa [wordsOf] using this : Calls Try.prog 48 #[.slice A 1 c] w fun e w' => e = .returned (.string U) ∧ Below w.heap.size w w'))
        rw [← hT] at HK zT
        rw [← hU] at HK zW
        clear hr HA hS hT hU
        go_wp2_with fail
        refine (CL.out _).mono ?_
        rintro e w2 ⟨rfl, b2⟩
        obtain ⟨q2, z2, b2'⟩ := boxed b2
        have OW2 := Lib.hid (OW.out.below b2')
        have B2 := Lib.hid (bstep BR.out b2' BR.out.size)
        have hgb := OW.out.base_le
        have hgw : g < wr.heap.size := (OW.out.sl_lt (by rw [byteC_len, hSl.out]; exact hm4))
        have x2 := q2.get 1 rfl
        have le1 := BR.out.size
        have Q2 := Lib.hid q2
        clear b2 b2' q2
        go_wp2_with (at_builtin; refine wpList_appsF _ rfl (.tmp 25) (.tmp 26) _ _ rfl w1.heap.size 5 i0 Try.underlying29 Try.underlying9 hi hz0 hz1 hz2 g m cc (byteC S) rfl OW2.out T rfl (by omega) (by unfold maxLen; omega) (by omega) (by omega) ?_; intro A3 c3 row3 w3 o3 g3 r3; rw [zT] at o3; have O3 := Lib.hid o3; have Q3 := Lib.hid (Q2.out.grown g3 (fun e => by obtain ⟨a, ha, hab⟩ := r3 _ e.symm; injection ha with ha; subst ha; have hab : g = wr.heap.size := hab; omega)); have x3 := Q3.out.get 1 rfl; have le3 := g3.size; have B3 := Lib.hid (below_at B2.out (by omega) g3 r3 (fun a ha => by injection ha with ha; subst ha; exact hgb)); clear o3 g3 r3 x2)
        refine (CW.out _ _ _ (Sl.more (sl_new (w := w3) (cs := #[.int .i64 (s.size : Int)]) (t := 3) rfl) (by simp))).mono ?_
        rintro e w4 ⟨rfl, b4⟩
        obtain ⟨q4, z4, b4'⟩ := boxed b4
        have O4 := Lib.hid (O3.out.below b4' (Nat.le_refl _))
        have Q4 := Lib.hid (Q3.out.below b4' Q3.out.lt)
        have x4 := Q4.out.get 1 rfl
        have B4 := Lib.hid (bstep B3.out b4' B3.out.size)
        have le4 := b4'.size
        clear b4 b4' q4 x3
        go_wp2_with (first
          | (at_builtin; refine wpList_apps _ rfl (.tmp 28) (.tmp 33) _ _ rfl w1.heap.size 5 i0 Try.underlying29 Try.underlying9 hi hz0 hz1 hz2 A3 (m + 4) c3 _ rfl O4.out U rfl (by unfold maxLen; omega) (by omega) (by omega) ?_; intro A5 c5 row5 w5 o5 g5 r5; rw [zW] at o5; have O5 := Lib.hid (show Own w5 w1.heap.size 5 1 A5 (m + 6) c5 _ from o5); have Q5 := Lib.hid (Q4.out.grown g5 (fun e => by obtain ⟨a, ha, hab⟩ := r5 _ e.symm; exact O4.out.ne_blk Q4.out (by decide) a ha hab)); have x5 := Q5.out.get 1 rfl; have le5 := g5.size; have B5 := Lib.hid (below_at B4.out (by omega) g5 r5 (fun a ha => (O4.out.blk a ha).1)); clear o5 g5 r5 x4)
          | (at_builtin; refine wpList_apps _ rfl (.tmp 35) (.tmp 37) _ _ rfl w1.heap.size 5 i0 Try.underlying29 Try.underlying9 hi hz0 hz1 hz2 A5 (m + 6) c5 _ rfl O5.out s rfl (by unfold maxLen; omega) (by omega) (by omega) ?_; intro A6 c6 row6 w6 o6 g6 r6; have O6 := Lib.hid o6; have B6 := Lib.hid (below_at B5.out (by omega) g6 r6 (fun a ha => (O5.out.blk a ha).1)); clear o6 g6 r6))
        obtain ⟨g6, rfl⟩ := O6.out.some_of (by omega)
        go_roundw
        case rel =>
          refine ⟨k + 1, m + 6 + s.size, g6, c6, S ++ bl T ++ bl U ++ bl s, by omega, by go_num, rfl, Lib.hid (by simp only [List.length_append, bl_len, hSl.out, zT, zW]), Lib.hid HK.out.symm, by omega, by omega, .inl ?_, B6.out⟩
          rw [byteC_app, byteC_app, byteC_app]
          exact O6.out
        case measure => simp [intOf]; omega
      · have HE := Lib.hid (show S = capBytes l from by rw [hS.out, List.take_of_length_le (by rw [HN.out]; omega)]; rfl)
        have hcv := conv_bytes (c := cc) OW.out.sl hSl.out
        clear hS
        go_wp2
        go_ret
        exact ⟨by rw [HP.out, ← HE.out]; rfl, bstep B1.out BR.out B1.out.size⟩
  · have h1 : capB l = false := by simpa using h1
    have HP := Lib.hid (capPut_no h1)
    go_enter Try.func31, Try.ntmps31
    go_wp2_with fail
    refine (icap_valid _ _ _ l _ HS.out HN.out hm HT.out).mono ?_
    rw [h1]
    rintro e w1 ⟨rfl, b1⟩
    go_wp2
    go_ret
    exact ⟨by rw [HP.out]; rfl, b1⟩
end Go.Proofs.Ytmphkogaclfjmaa
