/-
  Chunks and packets in plain Lean: when one is valid, its bytes, and what is read of bytes. No condition but those that each theorem bears.
-/
import Derived.Test.YtlemdagiamnphaaSumP
namespace Go.Proofs.Ytlemdagiamnphaa
set_option linter.unusedVariables false

abbrev Chk := Int × Int × ByteArray
def chunkB (c : Chk) : Bool := decide (0 ≤ c.1 ∧ c.1 ≤ 255 ∧ 0 ≤ c.2.1 ∧ c.2.1 ≤ 255 ∧ c.2.2.size ≤ 60)
theorem chunkB_true {c : Chk} (h : chunkB c = true) : 0 ≤ c.1 ∧ c.1 ≤ 255 ∧ 0 ≤ c.2.1 ∧ c.2.1 ≤ 255 ∧ c.2.2.size ≤ 60 := of_decide_eq_true h
theorem chunkB_false {c : Chk} (h : chunkB c = false) : ¬ (0 ≤ c.1 ∧ c.1 ≤ 255 ∧ 0 ≤ c.2.1 ∧ c.2.1 ≤ 255 ∧ c.2.2.size ≤ 60) := of_decide_eq_false h
theorem chunkB_mk {c : Chk} (h : 0 ≤ c.1 ∧ c.1 ≤ 255 ∧ 0 ≤ c.2.1 ∧ c.2.1 ≤ 255 ∧ c.2.2.size ≤ 60) : chunkB c = true := decide_eq_true h
theorem chunkB_no {c : Chk} (h : ¬ (0 ≤ c.1 ∧ c.1 ≤ 255 ∧ 0 ≤ c.2.1 ∧ c.2.1 ≤ 255 ∧ c.2.2.size ≤ 60)) : chunkB c = false := decide_eq_false h
def allB (l : List Chk) : Bool := l.all chunkB
def headB (f t g : Int) (n : Nat) : Bool := decide (1 ≤ f ∧ f ≤ 65535 ∧ 1 ≤ t ∧ t ≤ 65535 ∧ f ≠ t ∧ 0 ≤ g ∧ g ≤ 4294967295 ∧ 1 ≤ n ∧ n ≤ 4)
def packB (f t g : Int) (l : List Chk) : Bool := headB f t g l.length && allB l
theorem packB_true {f t g : Int} {l : List Chk} (h : packB f t g l = true) : (1 ≤ f ∧ f ≤ 65535 ∧ 1 ≤ t ∧ t ≤ 65535 ∧ f ≠ t ∧ 0 ≤ g ∧ g ≤ 4294967295 ∧ 1 ≤ l.length ∧ l.length ≤ 4) ∧ ∀ c ∈ l, chunkB c = true := by
  unfold packB at h
  rw [Bool.and_eq_true] at h
  exact ⟨of_decide_eq_true h.1, List.all_eq_true.1 h.2⟩
theorem packB_mk {f t g : Int} {l : List Chk} (h : 1 ≤ f ∧ f ≤ 65535 ∧ 1 ≤ t ∧ t ≤ 65535 ∧ f ≠ t ∧ 0 ≤ g ∧ g ≤ 4294967295 ∧ 1 ≤ l.length ∧ l.length ≤ 4) (h2 : ∀ c ∈ l, chunkB c = true) : packB f t g l = true := by
  unfold packB
  rw [Bool.and_eq_true]
  exact ⟨decide_eq_true h, List.all_eq_true.2 h2⟩
theorem allB_drop {l : List Chk} {k : Nat} {c : Chk} (h : l[k]? = some c) : allB (l.drop k) = (chunkB c && allB (l.drop (k + 1))) := by
  obtain ⟨hk, hz⟩ := List.getElem?_eq_some_iff.1 h
  rw [List.drop_eq_getElem_cons hk, hz]
  rfl
theorem allB_end {l : List Chk} {k : Nat} (h : l.length ≤ k) : allB (l.drop k) = true := by
  rw [List.drop_of_length_le h]; rfl

/-! ### What is written -/
def pad (n : Nat) : Nat := (4 - n % 4) % 4
theorem pad_lt (n : Nat) : pad n < 4 := by unfold pad; omega
theorem pad_mod (n : Nat) : (n + pad n) % 4 = 0 := by unfold pad; omega
theorem pad_end (n : Nat) : (n + 3) / 4 * 4 = n + pad n := by unfold pad; omega
def zeros (n : Nat) : List UInt8 := List.replicate n 0
def chunkRaw (c : Chk) : List UInt8 := [UInt8.ofNat c.1.toNat, UInt8.ofNat c.2.1.toNat] ++ word (4 + c.2.2.size) ++ bl c.2.2
theorem chunkRaw_len (c : Chk) : (chunkRaw c).length = 4 + c.2.2.size := by
  unfold chunkRaw
  simp only [List.length_append, word_len, bl_len, List.length_cons, List.length_nil]
def chunkBytes (c : Chk) : List UInt8 := chunkRaw c ++ zeros (pad (4 + c.2.2.size))
theorem chunkBytes_len (c : Chk) : (chunkBytes c).length = 4 + c.2.2.size + pad (4 + c.2.2.size) := by
  unfold chunkBytes zeros
  rw [List.length_append, chunkRaw_len, List.length_replicate]
def restBytes (l : List Chk) : List UInt8 := l.flatMap chunkBytes
theorem restBytes_cons (c : Chk) (l : List Chk) : restBytes (c :: l) = chunkBytes c ++ restBytes l := rfl
theorem restBytes_snoc (l : List Chk) (c : Chk) : restBytes (l ++ [c]) = restBytes l ++ chunkBytes c := by
  unfold restBytes
  simp
def headBytes (f t g : Int) : List UInt8 := word f.toNat ++ word t.toNat ++ long g.toNat
theorem headBytes_len (f t g : Int) : (headBytes f t g).length = 8 := rfl
def packSum (f t g : Int) (l : List Chk) : Nat := sumOf (headBytes f t g ++ zeros 4 ++ restBytes l)
def packBytes (f t g : Int) (l : List Chk) : List UInt8 := headBytes f t g ++ long (packSum f t g l) ++ restBytes l
def packPut (f t g : Int) (l : List Chk) : ByteArray := if packB f t g l then mk (packBytes f t g l) else ⟨#[]⟩
theorem restBytes_len : ∀ (l : List Chk), (∀ c ∈ l, chunkB c = true) → 4 * l.length ≤ (restBytes l).length ∧ (restBytes l).length ≤ 67 * l.length
  | [], _ => by simp [restBytes]
  | c :: l, h => by
    have h1 := chunkB_true (h c (by simp))
    have h2 := restBytes_len l (fun d hd => h d (by simp [hd]))
    have h3 := pad_lt (4 + c.2.2.size)
    rw [restBytes_cons, List.length_append, chunkBytes_len, List.length_cons]
    omega

/-! ### What is read -/
def chunkOk (l : List UInt8) : Prop := 4 ≤ l.length ∧ 4 ≤ wAt l 2 ∧ wAt l 2 ≤ 64 ∧ wAt l 2 + pad (wAt l 2) ≤ l.length ∧ (l.drop (wAt l 2)).take (pad (wAt l 2)) = zeros (pad (wAt l 2))
instance (l : List UInt8) : Decidable (chunkOk l) := by unfold chunkOk; infer_instance
def chunkAt (l : List UInt8) : Chk := ((bAt l 0 : Int), (bAt l 1 : Int), mk ((l.drop 4).take (wAt l 2 - 4)))
def chunkN (l : List UInt8) : Nat := wAt l 2 + pad (wAt l 2)
def chunksP : Nat → List UInt8 → Option (List Chk)
  | 0, l => if l = [] then some [] else none
  | f + 1, l => if l = [] then some [] else if chunkOk l then (chunksP f (l.drop (chunkN l))).map (chunkAt l :: ·) else none
theorem chunksP_nil (f : Nat) : chunksP f [] = some [] := by cases f <;> rfl
theorem chunksP_yes (f : Nat) (l : List UInt8) (hl : l ≠ []) (h : chunkOk l) : chunksP (f + 1) l = (chunksP f (l.drop (chunkN l))).map (chunkAt l :: ·) := by
  conv => lhs; unfold chunksP
  rw [if_neg hl, if_pos h]
theorem chunksP_no (f : Nat) (l : List UInt8) (hl : l ≠ []) (h : ¬ chunkOk l) : chunksP f l = none := by
  cases f with
  | zero => unfold chunksP; rw [if_neg hl]
  | succ f => unfold chunksP; rw [if_neg hl, if_neg h]
theorem chunkN_le {l : List UInt8} (h : chunkOk l) : 4 ≤ chunkN l ∧ chunkN l ≤ l.length ∧ chunkN l % 4 = 0 ∧ chunkN l ≤ 67 := by
  obtain ⟨h1, h2, h3, h4, _⟩ := h
  have := pad_lt (wAt l 2)
  exact ⟨by unfold chunkN; omega, h4, pad_mod _, by unfold chunkN; omega⟩
theorem chunkAt_ok {l : List UInt8} (h : chunkOk l) : chunkB (chunkAt l) = true ∧ chunkBytes (chunkAt l) = l.take (chunkN l) ∧ (chunkAt l).2.2.size = wAt l 2 - 4 := by
  obtain ⟨h1, h2, h3, h4, h5⟩ := h
  have b0 := bAt_lt l 0
  have b1 := bAt_lt l 1
  have hs : (mk ((l.drop 4).take (wAt l 2 - 4))).size = wAt l 2 - 4 := by rw [mk_size, List.length_take, List.length_drop]; omega
  refine ⟨chunkB_mk ⟨?_, ?_, ?_, ?_, ?_⟩, ?_, hs⟩
  · show (0 : Int) ≤ (bAt l 0 : Nat); omega
  · show ((bAt l 0 : Nat) : Int) ≤ 255; omega
  · show (0 : Int) ≤ (bAt l 1 : Nat); omega
  · show ((bAt l 1 : Nat) : Int) ≤ 255; omega
  · show (mk ((l.drop 4).take (wAt l 2 - 4))).size ≤ 60; omega
  · have hw : 4 + (chunkAt l).2.2.size = wAt l 2 := by
      show 4 + (mk ((l.drop 4).take (wAt l 2 - 4))).size = _
      omega
    unfold chunkBytes chunkRaw chunkN
    rw [hw, List.take_add, h5]
    congr 1
    show [UInt8.ofNat ((bAt l 0 : Nat) : Int).toNat, UInt8.ofNat ((bAt l 1 : Nat) : Int).toNat] ++ word (wAt l 2) ++ (l.drop 4).take (wAt l 2 - 4) = _
    rw [Int.toNat_natCast, Int.toNat_natCast, show wAt l 2 = 4 + (wAt l 2 - 4) from by omega, List.take_add]
    rw [show 4 + (wAt l 2 - 4) - 4 = wAt l 2 - 4 from by omega]
    congr 1
    have e2 := word_wAt (l.drop 2) (by rw [List.length_drop]; omega)
    rw [wAt_drop] at e2
    rw [show 4 + (wAt l 2 - 4) = wAt l (2 + 0) from by simp; omega, e2, show (4 : Nat) = 2 + 2 from rfl, List.take_add]
    congr 1
    match l, h1 with
    | a :: b :: r, _ =>
      show [UInt8.ofNat a.toNat, UInt8.ofNat b.toNat] = [a, b]
      rw [u8_ofNat, u8_ofNat]
theorem chunksP_ok : ∀ (f : Nat) (l : List UInt8) (cs : List Chk), chunksP f l = some cs → (∀ c ∈ cs, chunkB c = true) ∧ restBytes cs = l ∧ l.length % 4 = 0
  | 0, l, cs, h => by
    unfold chunksP at h
    split at h
    · rename_i hl
      injection h with h
      subst hl h
      exact ⟨fun c hc => by simp at hc, rfl, rfl⟩
    · cases h
  | f + 1, l, cs, h => by
    by_cases hl : l = []
    · subst hl
      rw [chunksP_nil] at h
      injection h with h
      subst h
      exact ⟨fun c hc => by simp at hc, rfl, rfl⟩
    · by_cases hc : chunkOk l
      · rw [chunksP_yes f l hl hc] at h
        obtain ⟨r, hr, e⟩ := Option.map_eq_some_iff.1 h
        subst e
        obtain ⟨a, b, c⟩ := chunksP_ok f _ r hr
        obtain ⟨p, q, _⟩ := chunkAt_ok hc
        obtain ⟨n1, n2, n3, _⟩ := chunkN_le hc
        refine ⟨fun d hd => ?_, ?_, ?_⟩
        · rcases List.mem_cons.1 hd with rfl | hd
          · exact p
          · exact a d hd
        · rw [restBytes_cons, q, b, List.take_append_drop]
        · rw [List.length_drop] at c
          omega
      · rw [chunksP_no _ _ hl hc] at h
        cases h
theorem chunk_head (c : Chk) (t : List UInt8) (h : chunkB c = true) : chunkOk (chunkBytes c ++ t) ∧ chunkAt (chunkBytes c ++ t) = c ∧ chunkN (chunkBytes c ++ t) = (chunkBytes c).length := by
  obtain ⟨h1, h2, h3, h4, h5⟩ := chunkB_true h
  have hw : wAt (chunkBytes c ++ t) 2 = 4 + c.2.2.size := by
    unfold chunkBytes chunkRaw
    simp only [List.append_assoc]
    have := wAt_right [UInt8.ofNat c.1.toNat, UInt8.ofNat c.2.1.toNat] (word (4 + c.2.2.size) ++ (bl c.2.2 ++ (zeros (pad (4 + c.2.2.size)) ++ t))) 0
    rw [show ([UInt8.ofNat c.1.toNat, UInt8.ofNat c.2.1.toNat] : List UInt8).length + 0 = 2 from rfl] at this
    rw [this, wAt_left _ _ _ (by rw [word_len]; omega), wAt_word _ (by omega)]
  have hd : (chunkBytes c ++ t).drop (4 + c.2.2.size) = zeros (pad (4 + c.2.2.size)) ++ t := by
    unfold chunkBytes
    rw [List.append_assoc, ← chunkRaw_len, List.drop_left]
  have hz : (zeros (pad (4 + c.2.2.size)) ++ t).take (pad (4 + c.2.2.size)) = zeros (pad (4 + c.2.2.size)) := by
    have : (zeros (pad (4 + c.2.2.size))).length = pad (4 + c.2.2.size) := by unfold zeros; rw [List.length_replicate]
    conv => lhs; rw [← this]
    rw [show (zeros (zeros (pad (4 + c.2.2.size))).length) = zeros (pad (4 + c.2.2.size)) from by rw [this], List.take_left]
  have hl : (chunkBytes c ++ t).length = 4 + c.2.2.size + pad (4 + c.2.2.size) + t.length := by rw [List.length_append, chunkBytes_len]
  refine ⟨⟨by omega, by omega, by omega, by rw [hw]; omega, by rw [hw, hd, hz]⟩, ?_, ?_⟩
  · unfold chunkAt
    have e0 : bAt (chunkBytes c ++ t) 0 = c.1.toNat := by
      unfold chunkBytes chunkRaw bAt
      simp
      omega
    have e1 : bAt (chunkBytes c ++ t) 1 = c.2.1.toNat := by
      unfold chunkBytes chunkRaw bAt
      simp
      omega
    have e2 : ((chunkBytes c ++ t).drop 4).take (wAt (chunkBytes c ++ t) 2 - 4) = bl c.2.2 := by
      rw [hw, show 4 + c.2.2.size - 4 = (bl c.2.2).length from by rw [bl_len]; omega]
      unfold chunkBytes chunkRaw
      simp only [List.append_assoc]
      rw [show ([UInt8.ofNat c.1.toNat, UInt8.ofNat c.2.1.toNat] ++ (word (4 + c.2.2.size) ++ (bl c.2.2 ++ (zeros (pad (4 + c.2.2.size)) ++ t)))).drop 4 = bl c.2.2 ++ (zeros (pad (4 + c.2.2.size)) ++ t) from rfl, List.take_left]
    rw [e0, e1, e2, mk_bl, Int.toNat_of_nonneg h1, Int.toNat_of_nonneg h3]
  · unfold chunkN
    rw [hw, chunkBytes_len]
theorem chunksP_bytes : ∀ (cs : List Chk) (f : Nat), (∀ c ∈ cs, chunkB c = true) → (restBytes cs).length ≤ f → chunksP f (restBytes cs) = some cs
  | [], f, _, _ => chunksP_nil f
  | c :: cs, 0, h, hf => by
    rw [restBytes_cons, List.length_append, chunkBytes_len] at hf
    omega
  | c :: cs, f + 1, h, hf => by
    obtain ⟨a, b, d⟩ := chunk_head c (restBytes cs) (h c (by simp))
    have hl := chunkBytes_len c
    rw [restBytes_cons, List.length_append] at hf
    rw [restBytes_cons, chunksP_yes f _ (fun e => by have := congrArg List.length e; rw [List.length_append, hl] at this; change _ = 0 at this; omega) a, b, d, List.drop_left, chunksP_bytes cs f (fun e he => h e (by simp [he])) (by omega)]
    rfl

/-! ### Packets read -/
def getSum (l : List UInt8) : Nat := sumOf (l.take 8 ++ zeros 4 ++ l.drop 12)
def getOk (l : List UInt8) : Option (List Chk) := chunksP l.length (l.drop 12)
def fromOf (l : List UInt8) : Int := (wAt l 0 : Int)
def toOf (l : List UInt8) : Int := (wAt l 2 : Int)
def tagOf (l : List UInt8) : Int := (lAt l 4 : Int)
def packCode (l : List UInt8) : Int :=
  if l.length < 12 then 1 else if lAt l 8 ≠ getSum l then 2 else match getOk l with
    | none => 3
    | some cs => if packB (fromOf l) (toOf l) (tagOf l) cs then 0 else 3
theorem code_short {l : List UInt8} (h : l.length < 12) : packCode l = 1 := by unfold packCode; rw [if_pos h]
theorem code_sum {l : List UInt8} (h : ¬ l.length < 12) (h2 : lAt l 8 ≠ getSum l) : packCode l = 2 := by unfold packCode; rw [if_neg h, if_pos h2]
theorem code_bad {l : List UInt8} (h : ¬ l.length < 12) (h2 : lAt l 8 = getSum l) (h3 : getOk l = none) : packCode l = 3 := by unfold packCode; rw [if_neg h, if_neg (by simp [h2]), h3]
theorem code_bad2 {l : List UInt8} (h : ¬ l.length < 12) (h2 : lAt l 8 = getSum l) {cs : List Chk} (h3 : getOk l = some cs) (h4 : packB (fromOf l) (toOf l) (tagOf l) cs = false) : packCode l = 3 := by
  unfold packCode; rw [if_neg h, if_neg (by simp [h2]), h3]; simp [h4]
theorem code_good {l : List UInt8} (h : ¬ l.length < 12) (h2 : lAt l 8 = getSum l) {cs : List Chk} (h3 : getOk l = some cs) (h4 : packB (fromOf l) (toOf l) (tagOf l) cs = true) : packCode l = 0 := by
  unfold packCode; rw [if_neg h, if_neg (by simp [h2]), h3]; simp [h4]
theorem good_inv {l : List UInt8} (h : packCode l = 0) : ¬ l.length < 12 ∧ lAt l 8 = getSum l ∧ ∃ cs, getOk l = some cs ∧ packB (fromOf l) (toOf l) (tagOf l) cs = true := by
  by_cases h1 : l.length < 12
  · rw [code_short h1] at h; cases h
  · by_cases h2 : lAt l 8 = getSum l
    · refine ⟨h1, h2, ?_⟩
      cases h3 : getOk l with
      | none => rw [code_bad h1 h2 h3] at h; cases h
      | some cs =>
        refine ⟨cs, rfl, ?_⟩
        by_cases h4 : packB (fromOf l) (toOf l) (tagOf l) cs = true
        · exact h4
        · rw [code_bad2 h1 h2 h3 (by simpa using h4)] at h; cases h
    · rw [code_sum h1 h2] at h; cases h
theorem good_len {l : List UInt8} (h : packCode l = 0) : 16 ≤ l.length ∧ l.length % 4 = 0 := by
  obtain ⟨h1, h2, cs, h3, h4⟩ := good_inv h
  obtain ⟨a, b, c⟩ := chunksP_ok _ _ _ h3
  obtain ⟨p, q⟩ := packB_true h4
  have hr := (restBytes_len cs q).1
  rw [b, List.length_drop] at hr
  rw [List.length_drop] at c
  omega
theorem head_of (l : List UInt8) (h : 12 ≤ l.length) : headBytes (fromOf l) (toOf l) (tagOf l) = l.take 8 := by
  unfold headBytes fromOf toOf tagOf
  rw [Int.toNat_natCast, Int.toNat_natCast, Int.toNat_natCast, word_wAt l (by omega)]
  have e1 := word_wAt (l.drop 2) (by rw [List.length_drop]; omega)
  have e2 := long_lAt (l.drop 4) (by rw [List.length_drop]; omega)
  rw [wAt_drop] at e1
  rw [lAt_drop] at e2
  rw [e1, e2, show (8 : Nat) = 4 + 4 from rfl, List.take_add, show List.take 4 l = List.take 2 l ++ List.take 2 (l.drop 2) from by rw [show (4 : Nat) = 2 + 2 from rfl, List.take_add]]
/-- What was read is written back as it was. -/
theorem good_back {l : List UInt8} (h : packCode l = 0) {cs : List Chk} (hc : getOk l = some cs) : packB (fromOf l) (toOf l) (tagOf l) cs = true ∧ packBytes (fromOf l) (toOf l) (tagOf l) cs = l := by
  obtain ⟨h1, h2, cs', h3, h4⟩ := good_inv h
  rw [hc] at h3
  injection h3 with h3
  subst h3
  obtain ⟨a, b, c⟩ := chunksP_ok _ _ _ hc
  refine ⟨h4, ?_⟩
  unfold packBytes packSum
  have e := long_lAt (l.drop 8) (by rw [List.length_drop]; omega)
  rw [lAt_drop] at e
  rw [head_of l (by omega), b]
  change lAt l (8 + 0) = sumOf (l.take 8 ++ zeros 4 ++ l.drop 12) at h2
  rw [← h2, e, ← List.take_add]
  exact List.take_append_drop 12 l
/-- What was written is read back. -/
theorem put_back {f t g : Int} {cs : List Chk} (h : packB f t g cs = true) : packCode (packBytes f t g cs) = 0 ∧ getOk (packBytes f t g cs) = some cs ∧ fromOf (packBytes f t g cs) = f ∧ toOf (packBytes f t g cs) = t ∧ tagOf (packBytes f t g cs) = g := by
  obtain ⟨p, q⟩ := packB_true h
  have hs : packSum f t g cs < 4294967296 := sumOf_lt _
  have hd12 : (packBytes f t g cs).drop 12 = restBytes cs := by unfold packBytes; rfl
  have ht8 : (packBytes f t g cs).take 8 = headBytes f t g := by
    unfold packBytes
    rw [List.append_assoc, ← headBytes_len f t g, List.take_left]
  have hlen : (packBytes f t g cs).length = 12 + (restBytes cs).length := by
    unfold packBytes
    rw [List.length_append, List.length_append, headBytes_len, long_len]
  have e8 : lAt (packBytes f t g cs) 8 = packSum f t g cs := by
    unfold packBytes
    rw [List.append_assoc]
    have := lAt_right (headBytes f t g) (long (packSum f t g cs) ++ restBytes cs) 0
    rw [headBytes_len] at this
    rw [show 8 = 8 + 0 from rfl, this, lAt_left _ _ _ (by rw [long_len]; omega), lAt_long _ hs]
  have e0 : wAt (packBytes f t g cs) 0 = f.toNat := by
    unfold packBytes headBytes
    simp only [List.append_assoc]
    rw [wAt_left _ _ _ (by rw [word_len]; omega), wAt_word _ (by omega)]
  have e2 : wAt (packBytes f t g cs) 2 = t.toNat := by
    unfold packBytes headBytes
    simp only [List.append_assoc]
    have := wAt_right (word f.toNat) (word t.toNat ++ (long g.toNat ++ (long (packSum f t g cs) ++ restBytes cs))) 0
    rw [word_len] at this
    rw [show 2 = 2 + 0 from rfl, this, wAt_left _ _ _ (by rw [word_len]; omega), wAt_word _ (by omega)]
  have e4 : lAt (packBytes f t g cs) 4 = g.toNat := by
    unfold packBytes headBytes
    simp only [List.append_assoc]
    have := lAt_right (word f.toNat ++ word t.toNat) (long g.toNat ++ (long (packSum f t g cs) ++ restBytes cs)) 0
    rw [show (word f.toNat ++ word t.toNat).length + 0 = 4 from rfl, List.append_assoc] at this
    rw [this, lAt_left _ _ _ (by rw [long_len]; omega), lAt_long _ (by omega)]
  have f1 : fromOf (packBytes f t g cs) = f := by unfold fromOf; rw [e0]; omega
  have f2 : toOf (packBytes f t g cs) = t := by unfold toOf; rw [e2]; omega
  have f3 : tagOf (packBytes f t g cs) = g := by unfold tagOf; rw [e4]; omega
  have hg : getOk (packBytes f t g cs) = some cs := by
    unfold getOk
    rw [hd12, chunksP_bytes cs _ q (by omega)]
  refine ⟨code_good (by omega) ?_ hg (by rw [f1, f2, f3]; exact h), hg, f1, f2, f3⟩
  rw [e8]
  unfold getSum packSum
  rw [hd12, ht8]
/-- A packet that is cut, or goes on, is none. -/
theorem cut_bad {l : List UInt8} (h : l.length % 4 ≠ 0) : packCode l ≠ 0 := fun e => h (good_len e).2
theorem l8_ne {l m : List UInt8} (hl : 12 ≤ l.length) (hm : 12 ≤ m.length) (h : lAt l 8 = lAt m 8) : (l.drop 8).take 4 = (m.drop 8).take 4 := by
  have e1 := long_lAt (l.drop 8) (by rw [List.length_drop]; omega)
  have e2 := long_lAt (m.drop 8) (by rw [List.length_drop]; omega)
  rw [lAt_drop] at e1 e2
  rw [← e1, ← e2]
  show long (lAt l 8) = long (lAt m 8)
  rw [h]
/-- A changed byte is noticed. -/
theorem byte_seen {l : List UInt8} (h : packCode l = 0) (k : Nat) (hk : k < l.length) (c : UInt8) (hc : l[k] ≠ c) : packCode (l.set k c) = 2 := by
  obtain ⟨h1, h2, _⟩ := good_inv h
  have hs : l.set k c = l.take k ++ c :: l.drop (k + 1) := by rw [List.set_eq_take_append_cons_drop, if_pos hk]
  have hs0 : l = l.take k ++ l[k] :: l.drop (k + 1) := by rw [← List.drop_eq_getElem_cons hk, List.take_append_drop]
  refine code_sum (by rw [List.length_set]; exact h1) ?_
  intro e
  by_cases h8 : k < 8
  · have e1 : lAt (l.set k c) 8 = lAt l 8 := by
      have := lAt_drop (l.set k c) 8 0
      rw [List.drop_set_of_lt (by omega), lAt_drop] at this
      exact this.symm
    rw [e1, h2] at e
    unfold getSum at e
    rw [List.drop_set_of_lt (by omega), List.take_set] at e
    have e2 : (l.take 8).set k c = (l.take 8).take k ++ c :: (l.take 8).drop (k + 1) := by rw [List.set_eq_take_append_cons_drop, if_pos (by rw [List.length_take]; omega)]
    have hk8 : k < (l.take 8).length := by rw [List.length_take]; omega
    have e3 : l.take 8 = (l.take 8).take k ++ l[k] :: (l.take 8).drop (k + 1) := by
      conv => lhs; rw [← List.take_append_drop k (l.take 8), List.drop_eq_getElem_cons hk8]
      rw [List.getElem_take]
    rw [e2] at e
    conv at e => lhs; rw [e3]
    simp only [List.append_assoc, List.cons_append] at e
    exact sum_byte _ _ _ _ hc e
  · by_cases h12 : k < 12
    · have e1 : getSum (l.set k c) = getSum l := by
        unfold getSum
        rw [List.drop_set_of_lt (by omega), List.take_set_of_le (by omega)]
      rw [e1, ← h2] at e
      have e2 := l8_ne (by rw [List.length_set]; omega) (by omega) e
      have e3 := congrArg (fun x => x[k - 8]?) e2
      simp only [List.getElem?_take, List.getElem?_drop, show 8 + (k - 8) = k from by omega, show k - 8 < 4 from by omega, if_true, List.getElem?_set_self hk, List.getElem?_eq_getElem hk] at e3
      injection e3 with e3
      exact hc e3.symm
    · have e1 : lAt (l.set k c) 8 = lAt l 8 := by
        have a1 := lAt_take (l.set k c) 12 8 (by omega)
        have a2 := lAt_take l 12 8 (by omega)
        rw [List.take_set_of_le (by omega)] at a1
        rw [← a1, a2]
      rw [e1, h2] at e
      unfold getSum at e
      rw [List.take_set_of_le (by omega)] at e
      have hk2 : k - 12 < (l.drop 12).length := by rw [List.length_drop]; omega
      have e2 : (l.set k c).drop 12 = (l.drop 12).set (k - 12) c := by
        rw [List.drop_set, if_neg (by omega)]
      have e3 : (l.drop 12).set (k - 12) c = (l.drop 12).take (k - 12) ++ c :: (l.drop 12).drop (k - 12 + 1) := by rw [List.set_eq_take_append_cons_drop, if_pos hk2]
      have e4 : l.drop 12 = (l.drop 12).take (k - 12) ++ l[k] :: (l.drop 12).drop (k - 12 + 1) := by
        conv => lhs; rw [← List.take_append_drop (k - 12) (l.drop 12), List.drop_eq_getElem_cons hk2]
        rw [List.getElem_drop]
        simp only [show 12 + (k - 12) = k from by omega]
      rw [e2, e3] at e
      conv at e => lhs; rw [e4]
      rw [← List.append_assoc, ← List.append_assoc] at e
      exact sum_byte _ _ _ _ hc e
/-- Two exchanged bytes are noticed. -/
theorem swap_seen {p r : List UInt8} {c d : UInt8} (h : packCode (p ++ c :: d :: r) = 0) (hp : 12 ≤ p.length) (hc : c ≠ d) : packCode (p ++ d :: c :: r) = 2 := by
  obtain ⟨h1, h2, _⟩ := good_inv h
  refine code_sum (by rw [List.length_append]; omega) ?_
  intro e
  have a1 := lAt_left p (c :: d :: r) 8 (by omega)
  have a2 := lAt_left p (d :: c :: r) 8 (by omega)
  rw [a2, ← a1, h2] at e
  unfold getSum at e
  rw [List.take_append_of_le_length (by omega), List.take_append_of_le_length (by omega), List.drop_append_of_le_length (by omega), List.drop_append_of_le_length (by omega), ← List.append_assoc, ← List.append_assoc] at e
  exact sum_swap _ _ _ _ hc e
end Go.Proofs.Ytlemdagiamnphaa
