import Derived.Test.YtjeldcjchipdgaaDoorQLabelRots10
namespace Go.Proofs.YtjeldcjchipdgaaDoor
open Go.RowKit Go.HL
set_option maxRecDepth 100000

/-! a record's bytes, and one of them turned -/
theorem e1_one {n : Int} (h : 0 ≤ n ∧ n < 64) : enc1 ⟨1, n, ⟨#[]⟩⟩ = [1, UInt8.ofNat (2 * n).toNat] := by
  have h1 : enc1 ⟨1, n, ⟨#[]⟩⟩ = B8 1 :: cnt (zigU n).toNat := rfl
  rw [h1, zigU_zig ⟨by omega, by omega⟩, zig, if_neg (by omega), cnt_small (by omega)]
  rfl
def cT (t : Nat) : List UInt8 := [1, 154, 1, 1, UInt8.ofNat (2 * t), 2, 40, 1, UInt8.ofNat (2 * t), 1, UInt8.ofNat (2 * (1 + t)), 1, UInt8.ofNat (2 * t), 2, 32] ++ (List.range 32).map fun i => UInt8.ofNat (t + i)
theorem cT_eq {t : Nat} (h : 1 ≤ t ∧ t ≤ 30) : encAll (uit (ubV t t)) = cT t := by
  have e77 : enc1 ⟨1, 77, ⟨#[]⟩⟩ = [1, 154, 1] := by
    have h1 : enc1 ⟨1, 77, ⟨#[]⟩⟩ = B8 1 :: cnt (zigU 77).toNat := rfl
    rw [h1, zigU_zig ⟨by decide, by decide⟩, show zig 77 = 154 from by decide, cnt_big (by decide), cnt_small (by decide)]
    rfl
  have et : enc1 ⟨1, (t : Int), ⟨#[]⟩⟩ = [1, UInt8.ofNat (2 * t)] := by
    rw [e1_one (by omega), show (2 * (t : Int)).toNat = 2 * t from by omega]
  have e1t : enc1 ⟨1, 1 + (t : Int), ⟨#[]⟩⟩ = [1, UInt8.ofNat (2 * (1 + t))] := by
    rw [e1_one (by omega), show (2 * (1 + (t : Int))).toNat = 2 * (1 + t) from by omega]
  have hlen := ptrL_len (t : Int) 32
  have hL : ptrL (t : Int) 32 = (List.range 32).map fun i => UInt8.ofNat (t + i) := by
    refine List.map_congr_left fun i hi => ?_
    have hi := List.mem_range.1 hi
    rw [if_pos hi, B8, show ((t : Int) + i) % 256 = ((t + i : Nat) : Int) from by omega, Int.toNat_natCast]
  have es : enc1 ⟨2, 0, ⟨(ptrL (t : Int) 32).toArray⟩⟩ = [2, 32] ++ ptrL (t : Int) 32 := by
    have h1 : enc1 ⟨2, 0, ⟨(ptrL (t : Int) 32).toArray⟩⟩ = B8 2 :: (cnt (ptrL (t : Int) 32).toArray.size ++ (ptrL (t : Int) 32).toArray.toList) := rfl
    rw [h1, List.size_toArray, hlen, cnt_small (by decide)]
    rfl
  have hp : encAll (pit (ptrV t)) = [1, UInt8.ofNat (2 * t), 1, UInt8.ofNat (2 * (1 + t)), 1, UInt8.ofNat (2 * t), 2, 32] ++ ptrL (t : Int) 32 := by
    have hpe : pit (ptrV t) = [⟨1, (t : Int), ⟨#[]⟩⟩, ⟨1, 1 + (t : Int), ⟨#[]⟩⟩, ⟨1, (t : Int), ⟨#[]⟩⟩, ⟨2, 0, ⟨(ptrL (t : Int) 32).toArray⟩⟩] := by
      have a1 : (t : Int) % 1000 = t := by omega
      have a2 : 1 + (t : Int) % 1024 = 1 + t := by omega
      have a3 : (t : Int) % 77 = t := by omega
      show [(⟨1, (t : Int) % 1000, ⟨#[]⟩⟩ : Item), ⟨1, 1 + (t : Int) % 1024, ⟨#[]⟩⟩, ⟨1, (t : Int) % 77, ⟨#[]⟩⟩, ⟨2, 0, ⟨(ptrL (t : Int) 32).toArray⟩⟩] = _
      rw [a1, a2, a3]
    rw [hpe, encAll_cons, encAll_cons, encAll_cons, encAll_cons, et, e1t, es]
    show _ ++ (_ ++ (_ ++ (_ ++ []))) = _
    simp
  have hps : ptrS (ptrV t) = ⟨(encAll (pit (ptrV t))).toArray⟩ := by rw [ptrS, if_pos (ptrV_right t)]
  have e2 : enc1 ⟨2, 0, ptrS (ptrV t)⟩ = [2, 40] ++ encAll (pit (ptrV t)) := by
    have h1 : enc1 ⟨2, 0, ptrS (ptrV t)⟩ = B8 2 :: (cnt (ptrS (ptrV t)).size ++ (ptrS (ptrV t)).data.toList) := rfl
    have h2 : (encAll (pit (ptrV t))).length = 40 := by rw [hp, List.length_append, hlen]; rfl
    rw [h1, hps, show (ByteArray.mk (encAll (pit (ptrV t))).toArray).size = (encAll (pit (ptrV t))).length from by simp [ByteArray.size], h2, cnt_small (by decide)]
    rfl
  show encAll [⟨1, 77, ⟨#[]⟩⟩, ⟨1, (t : Int), ⟨#[]⟩⟩, ⟨2, 0, ptrS (ptrV t)⟩] = _
  rw [encAll_cons, encAll_cons, encAll_cons, e77, et, e2, hp, hL, cT]
  show _ ++ (_ ++ (_ ++ [])) = _
  simp
theorem cT_len (t : Nat) : (cT t).length = 47 := by simp [cT]
theorem bytes4_inj {x y : UInt32} (h : bytes4 x = bytes4 y) : x = y := by
  simp only [bytes4, List.cons.injEq, and_true] at h
  obtain ⟨h1, h2, h3, h4⟩ := h
  have f : ∀ (z : UInt32) (k : Nat), k < 32 → ((z >>> UInt32.ofNat k).toUInt8).toNat = z.toNat / 2 ^ k % 256 := fun z k hk => by
    rw [UInt32.toNat_toUInt8, UInt32.toNat_shiftRight, UInt32.toNat_ofNat', Nat.shiftRight_eq_div_pow]
    rw [show k % 2 ^ 32 % 32 = k from by omega]
  have g1 := congrArg UInt8.toNat h1
  have g2 := congrArg UInt8.toNat h2
  have g3 := congrArg UInt8.toNat h3
  have g4 := congrArg UInt8.toNat h4
  rw [f _ _ (by decide), f _ _ (by decide)] at g1 g2 g3
  rw [UInt32.toNat_toUInt8, UInt32.toNat_toUInt8] at g4
  apply UInt32.toNat_inj.1
  have hx := x.toNat_lt
  have hy := y.toNat_lt
  omega
theorem sumB_first {b : List UInt8} (h : (padded b).length = 64) : (sumB b).take 4 = bytes4 (mix st0 (padded b)).a := by
  rw [sumB_small h]
  obtain ⟨a, b, c, d, e, f, g, h⟩ := mix st0 (padded b)
  rfl
theorem padded_set {b : List UInt8} {p : Nat} {y : UInt8} (hp : p < b.length) : padded (b.set p y) = (padded b).set p y := by
  unfold padded
  rw [List.length_set, List.set_append_left _ _ (by simp; omega), List.set_append_left _ _ (by simp; omega), List.set_append_left _ _ hp]
theorem firm_all : ∀ t : Fin 9, firmN (padded (cT (t.1 + 1))) 47 = true := by decide +kernel
theorem cT_sum {t : Nat} (ht : 1 ≤ t ∧ t ≤ 9) {p : Nat} (hp : p < 47) {y : UInt8} (hy : y ≠ (cT t).getD p 0) : sumB ((cT t).set p y) ≠ sumB (cT t) := by
  intro h
  have hl := cT_len t
  have hpl : ∀ c : List UInt8, c.length = 47 → (padded c).length = 64 := fun c hc => by
    unfold padded
    rw [hc]
    simp [be8]
    omega
  have hf := firm_all ⟨t - 1, by omega⟩
  rw [show (⟨t - 1, by omega⟩ : Fin 9).1 + 1 = t from by show t - 1 + 1 = t; omega] at hf
  have h0 : y ≠ (padded (cT t)).getD p 0 := by
    have : (padded (cT t)).getD p 0 = (cT t).getD p 0 := by
      rw [padded, List.getD_eq_getElem?_getD, List.getElem?_append_left (by simp; omega), List.getElem?_append_left (by simp; omega), List.getElem?_append_left (by omega), ← List.getD_eq_getElem?_getD]
    rw [this]
    exact hy
  have h1 := firm_of (m := 47) (by rw [hpl _ hl]; omega) hf hp h0
  have h2 := congrArg (List.take 4) h
  rw [sumB_first (hpl _ (by rw [List.length_set, hl])), sumB_first (hpl _ hl), padded_set (by omega)] at h2
  exact h1 (bytes4_inj h2)
end Go.Proofs.YtjeldcjchipdgaaDoor
namespace Go.Proofs.YtjeldcjchipdgaaDoor
open Go.RowKit Go.HL
set_option maxRecDepth 100000

/-! what is encoded has no other one as its head -/
theorem dec_pre : ∀ (l : List Item) (n : Nat) (q : List UInt8), n + l.length ≤ 2000 → (∀ i ∈ l, Good i) → dec n (encAll l ++ q) = (dec (n + l.length) q).map (l ++ ·)
  | [], n, q, _, _ => by
    show dec n q = _
    cases h : dec n q with
    | none => rfl
    | some m => rfl
  | i :: l, n, q, hn, hg => by
    obtain ⟨h1, h2, h3⟩ := hg i (by simp)
    have ih := dec_pre l (n + 1) q (by simp at hn; omega) (fun j hj => hg j (by simp [hj]))
    have hL : n + (i :: l).length = n + 1 + l.length := by simp; omega
    simp at hn
    rw [hL, encAll_cons, ← renc1_eq h2 h3, renc1, List.append_assoc]
    simp only [okI, decide_eq_true_eq] at h2
    have hm : (dec (n + 1) (encAll l ++ q)).map (i :: ·) = (dec (n + 1 + l.length) q).map (i :: l ++ ·) := by
      rw [ih, Option.map_map]
      rfl
    split
    · rename_i hk
      have hs : i.s = ⟨#[]⟩ := by
        rcases h2 with h2 | h2
        · exact h2.2
        · omega
      rw [List.cons_append, dec_some (cnt_ctd (zig i.n) 0 (encAll l ++ q) (by omega) (zig_lt h3) (by omega)), if_neg (by omega), if_pos (show UInt8.toNat 1 = 1 from rfl), unz_zig, ← hm]
      obtain ⟨k, m, s⟩ := i
      simp only at hk hs
      subst hk; subst hs
      rfl
    · rename_i hk
      have hk2 : i.kind = 2 ∧ i.n = 0 := by omega
      have hsz : i.s.data.toList.length = i.s.size := by simp
      have h4 : i.s.size ≤ 4000 := by simp only [longI, decide_eq_false_iff_not] at h1; omega
      rw [List.cons_append, List.append_assoc, dec_some (cnt_ctd i.s.size 0 (i.s.data.toList ++ (encAll l ++ q)) (by omega) (by simp; omega) (by omega)), if_neg (by omega), if_neg (by decide), if_pos ⟨rfl, h4, by simp⟩]
      rw [List.drop_append_of_le_length (by omega), List.drop_eq_nil_of_le (by omega), List.nil_append, List.take_append_of_le_length (by omega), List.take_of_length_le (by omega), ← hm]
      obtain ⟨k, m, s⟩ := i
      simp only at hk2
      obtain ⟨e1, e2⟩ := hk2
      subst e1; subst e2
      simp
theorem enc_prefix {l m : List Item} {q : List UInt8} (hl : l.length ≤ 1000) (he : m.length = l.length) (gl : ∀ i ∈ l, Good i) (gm : ∀ i ∈ m, Good i) (h : encAll l = encAll m ++ q) : q = [] := by
  have h1 := enc_dec l 0 (by omega) gl
  rw [h, dec_pre m 0 q (by omega) gm] at h1
  obtain ⟨x, hx, hy⟩ := Option.map_eq_some_iff.1 h1
  have h2 := congrArg List.length hy
  rw [List.length_append] at h2
  have hx0 : x = [] := List.eq_nil_of_length_eq_zero (by omega)
  subst hx0
  have := (dec_spec q.length q (Nat.le_refl _) (0 + m.length) [] (by omega) hx).2.2
  exact this.symm
theorem uit_good {u : UbV} (h : encE u = 0) (hw : WfU u) : ∀ i ∈ uit u, Good i := by
  obtain ⟨_, _, h3, _⟩ := encE_t h
  have h0 : checkE (uit u) = 0 := by
    unfold secE at h3
    split at h3
    · assumption
    · rename_i h1; exact absurd h3 h1
  exact good_check h0 (uit_rit hw)
theorem encB_sec {u : UbV} (h : encE u = 0) : encB u = sec (encAll (uit u)) ∧ (encAll (uit u)).length ≤ 95 := by
  obtain ⟨h1, h2, h3, _⟩ := encE_t h
  refine ⟨by rw [encB, if_pos ⟨h1, h2⟩, secB, if_pos h3], ?_⟩
  unfold secE at h3
  split at h3
  · split at h3
    · cases h3
    · omega
  · rename_i h4; exact absurd h3 h4
/-- one byte of a record's sector is another one: it is no record -/
theorem turned_none {t : Nat} (ht : 1 ≤ t ∧ t ≤ 9) {k : Nat} {y : UInt8} (hk : k < 128) (hy : y ≠ (encB (ubV t t)).getD k 0) : decU ((encB (ubV t t)).set k y) = none := by
  have hE : encE (ubV t t) = 0 := ubV_enc (by omega)
  have hW : WfU (ubV t t) := ubV_wf (by omega)
  obtain ⟨b1, b2⟩ := encB_sec hE
  have hc := cT_eq (t := t) (by omega)
  have hcl : (cT t).length = 47 := cT_len t
  cases hd : decU ((encB (ubV t t)).set k y) with
  | none => rfl
  | some u =>
    exfalso
    obtain ⟨d1, d2, d3⟩ := dec_inv hd
    obtain ⟨c1, c2⟩ := encB_sec d1
    rw [c1, b1, hc] at d2
    obtain ⟨C, eC⟩ : ∃ C, C = encAll (uit u) := ⟨_, rfl⟩
    rw [← eC] at d2 c2
    rw [b1, hc] at hy
    have gl := uit_good d1 d3
    have gm := uit_good hE hW
    have hsl := sec_len (c := C) c2
    have hsl0 := sec_len (c := cT t) (by omega)
    have hat : ∀ j, j ≠ k → (sec C)[j]? = (sec (cT t))[j]? := fun j hj => by
      rw [d2, List.getElem?_set_ne (Ne.symm hj)]
    have hsec : ∀ (c : List UInt8) (j : Nat), (sec c)[j + 1]? = ((c ++ sumB c) ++ List.replicate (95 - c.length) 0)[j]? := fun c j => rfl
    have hsum : ∀ c, (sumB c).length = 32 := sumB_len
    by_cases hk0 : k = 0
    · subst hk0
      have hcc : ∀ j, (C ++ sumB C ++ List.replicate (95 - C.length) 0)[j]? = (cT t ++ sumB (cT t) ++ List.replicate (95 - (cT t).length) 0)[j]? := fun j => by
        rw [← hsec, ← hsec]
        exact hat _ (by omega)
      have hall := List.ext_getElem? hcc
      rw [List.append_assoc, List.append_assoc] at hall
      rcases Nat.lt_trichotomy C.length (cT t).length with h1 | h1 | h1
      · have h2 := congrArg (List.take (cT t).length) hall
        rw [List.take_left, List.take_append, List.take_of_length_le (by omega)] at h2
        have h3 := enc_prefix (l := uit (ubV t t)) (m := uit u) (by simp [uit]) rfl gm gl (by rw [hc, ← eC]; exact h2.symm)
        have h4 := congrArg List.length h2
        rw [h3, List.append_nil] at h4
        omega
      · have h2 := congrArg (List.take C.length) hall
        rw [List.take_left, h1, List.take_left] at h2
        have h3 := congrArg (fun l : List UInt8 => l[0]?) d2
        rw [h2] at h3
        have h5 : (sec (cT t))[0]? = some ((sec (cT t)).getD 0 0) := byte_at (by omega)
        have h6 : ((sec (cT t)).set 0 y)[0]? = some y := by rw [List.getElem?_set_self (by omega)]
        have h7 : (sec (cT t))[0]? = ((sec (cT t)).set 0 y)[0]? := h3
        rw [h5, h6] at h7
        injection h7 with h7
        exact hy h7.symm
      · have h2 := congrArg (List.take C.length) hall
        rw [List.take_left, List.take_append, List.take_of_length_le (by omega)] at h2
        have h3 := enc_prefix (l := uit u) (m := uit (ubV t t)) (by simp [uit]) rfl gl gm (by rw [hc, ← eC]; exact h2)
        have h4 := congrArg List.length h2
        rw [h3, List.append_nil] at h4
        omega
    · have hlen : C.length = (cT t).length := by
        have h1 := hat 0 (Ne.symm hk0)
        have h2 := (sec_parts (c := C) c2).1
        have h3 := (sec_parts (c := cT t) (by omega)).1
        rw [List.getD_eq_getElem?_getD, h1, ← List.getD_eq_getElem?_getD, h3] at h2
        omega
      obtain ⟨q, rfl⟩ : ∃ q, k = q + 1 := ⟨k - 1, by omega⟩
      have hcc : C ++ sumB C ++ List.replicate (95 - C.length) 0 = (cT t ++ sumB (cT t) ++ List.replicate (95 - (cT t).length) 0).set q y := by
        have h1 : (sec C).drop 1 = ((sec (cT t)).set (q + 1) y).drop 1 := by rw [d2]
        exact h1
      have hv : (sec (cT t)).getD (q + 1) 0 = (cT t ++ sumB (cT t) ++ List.replicate (95 - (cT t).length) 0).getD q 0 := by
        rw [List.getD_eq_getElem?_getD, List.getD_eq_getElem?_getD, hsec]
      rw [hv] at hy
      have hset : ((cT t).set q y).length = (cT t).length := List.length_set ..
      have hC : C = ((cT t).set q y) ∨ (C = cT t ∧ 47 ≤ q) := by
        have h2 := congrArg (List.take C.length) hcc
        rw [List.append_assoc, List.take_left, List.append_assoc, hlen] at h2
        by_cases hq : q < 47
        · left
          rw [List.set_append_left _ _ (by omega), ← hset, List.take_left] at h2
          exact h2
        · right
          rw [List.set_append_right _ _ (by omega), List.take_left] at h2
          exact ⟨h2, by omega⟩
      have hS : sumB C = (((cT t ++ sumB (cT t) ++ List.replicate (95 - (cT t).length) 0).set q y).drop 47).take 32 := by
        rw [← hcc, List.append_assoc, ← hcl, ← hlen, List.drop_left, ← hsum C, List.take_left]
      rcases hC with h1 | ⟨h1, hq⟩
      · by_cases hq : q < 47
        · have hS2 : sumB C = sumB (cT t) := by
            rw [hS, List.append_assoc, List.set_append_left _ _ (by omega), ← hcl, ← hset, List.drop_left, ← hsum (cT t), List.take_left]
          rw [h1] at hS2
          refine cT_sum ht hq ?_ hS2
          rw [List.append_assoc, List.getD_eq_getElem?_getD, List.getElem?_append_left (by omega), ← List.getD_eq_getElem?_getD] at hy
          exact hy
        · have h2 : C = cT t := by rw [h1, List.set_eq_of_length_le (by omega)]
          rw [h2] at hcc
          have h3 := congrArg (fun l : List UInt8 => l[q]?) hcc
          have hql : q < (cT t ++ sumB (cT t) ++ List.replicate (95 - (cT t).length) 0).length := by
            rw [List.length_append, List.length_append, hsum, List.length_replicate]; omega
          have h4 : (cT t ++ sumB (cT t) ++ List.replicate (95 - (cT t).length) 0)[q]? = some ((cT t ++ sumB (cT t) ++ List.replicate (95 - (cT t).length) 0).getD q 0) := byte_at hql
          have h5 : ((cT t ++ sumB (cT t) ++ List.replicate (95 - (cT t).length) 0).set q y)[q]? = some y := by rw [List.getElem?_set_self hql]
          have h6 : (cT t ++ sumB (cT t) ++ List.replicate (95 - (cT t).length) 0)[q]? = ((cT t ++ sumB (cT t) ++ List.replicate (95 - (cT t).length) 0).set q y)[q]? := h3
          rw [h4, h5] at h6
          injection h6 with h6
          exact hy h6.symm
      · rw [h1] at hcc
        have h3 := congrArg (fun l : List UInt8 => l[q]?) hcc
        have hql : q < (cT t ++ sumB (cT t) ++ List.replicate (95 - (cT t).length) 0).length := by
          rw [List.length_append, List.length_append, hsum, List.length_replicate]; omega
        have h4 : (cT t ++ sumB (cT t) ++ List.replicate (95 - (cT t).length) 0)[q]? = some ((cT t ++ sumB (cT t) ++ List.replicate (95 - (cT t).length) 0).getD q 0) := byte_at hql
        have h5 : ((cT t ++ sumB (cT t) ++ List.replicate (95 - (cT t).length) 0).set q y)[q]? = some y := by rw [List.getElem?_set_self hql]
        have h6 : (cT t ++ sumB (cT t) ++ List.replicate (95 - (cT t).length) 0)[q]? = ((cT t ++ sumB (cT t) ++ List.replicate (95 - (cT t).length) 0).set q y)[q]? := h3
        rw [h4, h5] at h6
        injection h6 with h6
        exact hy h6.symm
end Go.Proofs.YtjeldcjchipdgaaDoor
namespace Go.Proofs.YtjeldcjchipdgaaDoor
open Go.RowKit Go.HL
set_option maxRecDepth 100000

/-! the slots of a drive -/
def slE (s : RA) (d : Int) : Int := if 8 < s.sn ∧ 0 ≤ d ∧ d < s.dn then errD s d else 1
def slL (s : RA) (d : Int) : List Int := if slE s d = 0 then (wholeL s d).map (·.t) else []
end Go.Proofs.YtjeldcjchipdgaaDoor
namespace Go.Proofs.YtjeldcjchipdgaaDoor
open Go.RowKit Go.HL
set_option maxRecDepth 100000

/-! more on racks that have power -/
theorem rotS_held (s : RA) (p q : Pl) (n : Int) : heldS (rotS s p n) q = if q = p then rotB (heldS s p) n else heldS s q := by
  rw [heldS_eq (rotS s p n), heldS_eq s q]
  unfold rotS
  cases h : newV s.waits p with
  | some u =>
    have h1 : newV (putW s.waits p (rotB (heldS s p) n)) q = if q = p then some (rotB (heldS s p) n) else newV s.waits q := by
      unfold newV putW
      rw [List.reverse_reverse, mget_put]
    simp only [h1]
    by_cases e : q = p
    · simp [e]
    · simp [e]
      rfl
  | none =>
    have h1 : lastS { s with last := mput s.last p (rotB (heldS s p) n) } q = if q = p then rotB (heldS s p) n else lastS s q := by
      unfold lastS
      simp only [mget_put]
      by_cases e : q = p <;> simp [e]
    simp only [h1]
    by_cases e : q = p
    · subst e
      simp [h]
    · simp [e]
theorem rotS_dn (s : RA) (p : Pl) (n : Int) : (rotS s p n).dn = s.dn := by unfold rotS; split <;> rfl
theorem rotS_sn (s : RA) (p : Pl) (n : Int) : (rotS s p n).sn = s.sn := by unfold rotS; split <;> rfl
theorem rotS_gone (s : RA) (p : Pl) (n d : Int) : goneS (rotS s p n) d = goneS s d := by
  unfold rotS
  split <;> rfl
theorem rotS_up {s : RA} (h : Up s) (p : Pl) (n : Int) : Up (rotS s p n) := by
  unfold rotS
  split
  · exact ⟨h.off, h.armed⟩
  · exact ⟨h.off, h.armed⟩
theorem rotX_ne {n : Int} (hn : 0 ≤ n) : rotX n ≠ 0 := by
  intro h
  have h1 := congrArg UInt8.toNat h
  have h2 : (rotX n).toNat = (1 + n / 128 % 255).toNat := by
    unfold rotX B8
    rw [UInt8.toNat_ofNat']
    omega
  rw [h2] at h1
  have h3 : (0 : UInt8).toNat = 0 := rfl
  omega
theorem RotU {A : Nat → Prop} {w : World} {R : Nat} {s : RA} (h : RK A w R s) (hA : ∀ x, w.heap.size ≤ x → A x) {d a n : Int} (hi : inS s d a) (hg : goneS s d = false) (hn : 0 ≤ n ∧ n ≤ 9223372036854775807) :
    Calls Tryd.prog 19 [ptr R, vi d, vi a, vi n].toArray w (Ret fun v w' => v = vi 0 ∧ RK A w' R (rotS s (d, a) n) ∧ Chg A w w') := by
  have h2 : ¬ n < 0 := by omega
  have e0 : rotE s d a n = 0 := by simp [rotE, hi, hg, h2]
  refine (Rot_calls h d a n hn.2).mono ?_
  rintro e w' ⟨v, rfl, rfl, hR, k⟩
  rw [e0, if_pos rfl] at hR
  exact ⟨_, rfl, by rw [e0], hR.grow hA, k⟩
end Go.Proofs.YtjeldcjchipdgaaDoor
namespace Go.Proofs.YtjeldcjchipdgaaDoor
open Go.RowKit Go.HL
set_option maxRecDepth 100000

/-! a drive that is lost, one that is replaced -/
/-! behind Arm -/
structure Arms (n i : Nat) (s : RA) : Prop where
  dn : s.dn = 3
  sn : s.sn = 4
  g0 : goneS s 0 = false
  g1 : goneS s 1 = true
  g2 : goneS s 2 = false
  armed : s.armed = true
  off : offS s = decide (n ≤ i)
  left : i < n → s.left = (n : Int) - i ∧ s.off = false
  len : s.waits.length ≤ i
theorem Arms.step {n i : Nat} {s t : RA} (h : Arms n i s) (e1 : t.dn = s.dn) (e2 : t.sn = s.sn) (e3 : t.gone = s.gone) (e4 : t.armed = (spendS s).armed) (e5 : t.off = (spendS s).off) (e6 : t.left = (spendS s).left) (hl : t.waits.length ≤ i + 1) : Arms n (i + 1) t := by
  have hg : ∀ d, goneS t d = goneS s d := fun d => by rw [goneS, goneS, e3]
  have h1 := h.armed
  have h2 := h.off
  have h3 : (spendS s).armed = true := by unfold spendS; split <;> exact h1
  by_cases hi : i < n
  · obtain ⟨h4, h5⟩ := h.left hi
    have h6 : offS s = false := by rw [h2]; simp; omega
    have h7 : spendS s = { s with left := s.left - 1 } := by
      unfold spendS
      rw [h6, h1]
      rfl
    rw [h7] at e4 e5 e6
    have e5' : t.off = false := e5.trans h5
    have e6' : t.left = (n : Int) - i - 1 := e6.trans (by show s.left - 1 = _; rw [h4])
    refine ⟨e1.trans h.dn, e2.trans h.sn, (hg 0).trans h.g0, (hg 1).trans h.g1, (hg 2).trans h.g2, e4.trans h1, ?_, fun h8 => ⟨?_, e5'⟩, hl⟩
    · unfold offS
      rw [e5', e4.trans h1, e6']
      simp
      omega
    · rw [e6']
      omega
  · have h6 : offS s = true := by rw [h2]; simp; omega
    have h7 : spendS s = { s with off := true } := by
      unfold spendS
      rw [h6]
      rfl
    rw [h7] at e4 e5
    refine ⟨e1.trans h.dn, e2.trans h.sn, (hg 0).trans h.g0, (hg 1).trans h.g1, (hg 2).trans h.g2, e4.trans h1, ?_, fun h8 => by omega, hl⟩
    unfold offS
    rw [show t.off = true from e5]
    simp
    omega
theorem Arms.flush {n i : Nat} {s : RA} (h : Arms n i s) : Arms n (i + 1) (flushS s) := by
  have hl := h.len
  unfold flushS
  split
  · exact h.step (spendS_dn s) (spendS_sn s) (spendS_gone s) rfl rfl rfl (by rw [spendS_waits]; omega)
  · exact h.step (spendS_dn s) (spendS_sn s) (spendS_gone s) rfl rfl rfl (Nat.zero_le _)
theorem Arms.write {n i : Nat} {s : RA} (h : Arms n i s) {d a : Int} {b : List UInt8} (hi : inS s d a) (hg : goneS s d = false) (hb : b.length = 128) : Arms n (i + 1) (writeS s d a b) ∧ writeE s d a b.length = (if offS s = true then 16 else 0) := by
  have hl := h.len
  have he : writeE s d a b.length = (if offS s = true then 16 else 0) := by
    rw [hb]
    simp [writeE, hi, hg]
  refine ⟨?_, he⟩
  unfold writeS
  rw [he]
  by_cases ho : offS s = true
  · rw [if_pos ho, if_neg (by decide), if_pos rfl]
    exact h.step (spendS_dn s) (spendS_sn s) (spendS_gone s) rfl rfl rfl (by rw [spendS_waits]; omega)
  · rw [if_neg ho, if_pos rfl]
    exact h.step (spendS_dn s) (spendS_sn s) (spendS_gone s) rfl rfl rfl (by
      show (s.waits ++ [_]).length ≤ _
      rw [List.length_append]
      simpa using hl)
end Go.Proofs.YtjeldcjchipdgaaDoor
namespace Go.Proofs.YtjeldcjchipdgaaDoor
open Go.RowKit Go.HL
set_option maxRecDepth 100000

/-- what is wanted of a sector -/
def wantV (B : Int → List UInt8) (v : Int) : List UInt8 := if 0 < v then B (v - 1) else zeros
/-- the last write to each of forty sectors: one more of it, or nought -/
structure Lasts (B : Int → List UInt8) (L : List Int) (s : RA) : Prop where
  dn : s.dn = 5
  sn : s.sn = 8
  up : Up s
  gone : ∀ d, goneS s d = false
  len : L.length = 40
  held : ∀ d a : Nat, d < 5 → a < 8 → heldS s ((d : Int), (a : Int)) = wantV B (L.getD (d * 8 + a) 0)
  val : ∀ j, 0 ≤ L.getD j 0 ∧ L.getD j 0 ≤ 100000
theorem Lasts.write {B : Int → List UInt8} {L : List Int} {s : RA} (h : Lasts B L s) {d a : Nat} (hd : d < 5) (ha : a < 8) {f : Int} (hf : 0 ≤ f ∧ f < 100000) : Lasts B (L.set (d * 8 + a) (1 + f)) (addS s ((d : Int), (a : Int)) (B f)) := by
  have hlen := h.len
  refine ⟨h.dn, h.sn, addS_up h.up _ _, h.gone, by rw [List.length_set, hlen], fun d2 a2 h2 h3 => ?_, fun j => ?_⟩
  · rw [addS_held, List.getD_eq_getElem?_getD, List.getElem?_set]
    by_cases e : d * 8 + a = d2 * 8 + a2
    · have e1 : d = d2 := by omega
      have e2 : a = a2 := by omega
      subst e1; subst e2
      rw [if_pos rfl, if_pos rfl, if_pos (by omega)]
      show B f = wantV B (1 + f)
      rw [wantV, if_pos (by omega), show 1 + f - 1 = f from by omega]
    · rw [if_neg (fun e2 => e (by injection e2 with e3 e4; have e3' : (d2 : Int) = d := e3; have e4' : (a2 : Int) = a := e4; omega)), if_neg e, h.held d2 a2 h2 h3, List.getD_eq_getElem?_getD]
  · rw [List.getD_eq_getElem?_getD, List.getElem?_set]
    split
    · split
      · show 0 ≤ 1 + f ∧ 1 + f ≤ 100000
        omega
      · show 0 ≤ (0 : Int) ∧ (0 : Int) ≤ 100000
        omega
    · rw [← List.getD_eq_getElem?_getD]
      exact h.val j
end Go.Proofs.YtjeldcjchipdgaaDoor
namespace Go.Proofs.YtjeldcjchipdgaaDoor
open Go.RowKit Go.HL
set_option maxRecDepth 100000

/-! the ring of slots -/
def ringU (f : Int) : Nat → Nat → UbV
  | 0, _ => ⟨-1, zeroP⟩
  | i + 1, a => if (f + i) % 8 = (a : Int) then ubV (f + i) (f + i) else ringU f i a
theorem ringU_le (f : Int) (hf : 1 ≤ f) (i a : Nat) : (ringU f i a).t < f + i ∧ ((ringU f i a).t = -1 ∨ f ≤ (ringU f i a).t) := by
  induction i with
  | zero => exact ⟨by show (-1 : Int) < f + (0 : Nat); omega, .inl rfl⟩
  | succ i ih =>
    rw [ringU]
    split
    · exact ⟨by show f + (i : Int) < f + ((i + 1 : Nat) : Int); omega, .inr (by show f ≤ f + (i : Int); omega)⟩
    · exact ⟨by omega, ih.2⟩
structure RingI (f : Int) (i : Nat) (s : RA) : Prop where
  dn : s.dn = 3
  sn : s.sn = 9
  up : Up s
  gone : ∀ d, goneS s d = false
  slot : ∀ d a : Nat, d < 3 → slotU s (d : Nat) a = ringU f i a
  len : s.waits.length ≤ 3 * i
theorem RingI.next {f : Int} {i : Nat} {s : RA} (h : RingI f i s) (hf : 1 ≤ f ∧ f + i ≤ 1000000) : RingI f (i + 1) (lwS s (ubV (f + i) (f + i))) ∧ lwN s (ubV (f + i) (f + i)) = 3 ∧ lwE s (ubV (f + i) (f + i)) = 0 := by
  have hE : encE (ubV (f + i) (f + i)) = 0 := ubV_enc (by omega)
  have hW : WfU (ubV (f + i) (f + i)) := ubV_wf (by omega)
  have h8 : 8 < s.sn := by rw [h.sn]; omega
  obtain ⟨f1, f2, f3, f4, f5, f6⟩ := lwS_facts h.up h8 hE
  obtain ⟨-, e2, e3⟩ := lw_up h.up h8 hE
  rw [cntD_all h.gone, h.dn] at e2 e3
  refine ⟨⟨f2.trans h.dn, f3.trans h.sn, f1, fun d => (f4 d).trans (h.gone d), fun d a hd => ?_, ?_⟩, e2, e3⟩
  · rw [lwS_slot h.up h8 hE hW d (by rw [h.dn]; exact hd), h.slot d a hd, ringU]
    by_cases hc : (f + i) % 8 = (a : Int)
    · rw [if_pos ⟨hc.symm, h.gone _⟩, if_pos hc]
    · rw [if_neg (fun x => hc x.1.symm), if_neg hc]
  · have := h.len
    have := h.dn
    omega
theorem RingI.newest {f : Int} {i : Nat} {s : RA} (h : RingI f (i + 1) s) (hf : 1 ≤ f) : nwU s = ubV (f + i) (f + i) ∧ nwE s = 0 := by
  refine newest_is h.up (by rw [h.sn]; omega) (by show 0 < f + (i : Int); omega) ⟨0, by rw [h.dn]; omega, h.gone _, ((f + i) % 8).toNat, by omega, ?_⟩ (fun d hd _ a _ => ?_)
  · rw [h.slot 0 _ (by omega), ringU, if_pos (by omega)]
  · rw [h.slot d a (by rw [← h.dn]; exact hd), ringU]
    split
    · exact ⟨Int.le_refl _, fun _ => rfl⟩
    · have := (ringU_le f hf i a).1
      exact ⟨by show (ringU f i a).t ≤ f + (i : Int); omega, fun h9 => by have h10 : (ringU f i a).t = f + (i : Int) := h9; omega⟩
theorem RingI.slots {f : Int} {i : Nat} {s : RA} (h : RingI f i s) {d : Nat} (hd : d < 3) : slE s (d : Nat) = 0 ∧ (slL s (d : Nat)).length = 8 ∧ ∀ a, a < 8 → (slL s (d : Nat))[a]? = some (ringU f i a).t := by
  have e1 : errD s (d : Nat) = 0 := errD_up h.up _ (h.gone _)
  have e2 : slE s (d : Nat) = 0 := by rw [slE, if_pos ⟨by rw [h.sn]; omega, by omega, by rw [h.dn]; omega⟩, e1]
  have e3 : slL s (d : Nat) = (outK s (d : Nat) 8).map (·.t) := by rw [slL, if_pos e2, wholeL, if_pos e1]
  refine ⟨e2, by rw [e3, List.length_map, outK_len], fun a ha => ?_⟩
  rw [e3, List.getElem?_map, outK, List.getElem?_map, List.getElem?_range ha]
  simp only [Option.map_some, ha, if_true]
  rw [h.slot d a hd]
end Go.Proofs.YtjeldcjchipdgaaDoor
namespace Go.Proofs.YtjeldcjchipdgaaDoor
open Go.RowKit Go.HL
set_option maxRecDepth 100000

/-! transactions, a flush, then rot -/
theorem ringU_is (f : Int) (i a : Nat) : ringU f i a = ⟨-1, zeroP⟩ ∨ ∃ t : Int, f ≤ t ∧ t < f + i ∧ t % 8 = a ∧ ringU f i a = ubV t t := by
  induction i with
  | zero => exact .inl rfl
  | succ i ih =>
    rw [ringU]
    split
    · rename_i h
      exact .inr ⟨f + i, by omega, by omega, h, rfl⟩
    · rcases ih with h | ⟨t, h1, h2, h3, h4⟩
      · exact .inl h
      · exact .inr ⟨t, h1, by omega, h3, h4⟩
theorem ringU_t {f : Int} {i a : Nat} {t : Int} (hf : 1 ≤ f) (h : (ringU f i a).t = t) (ht : 0 ≤ t) : ringU f i a = ubV t t := by
  rcases ringU_is f i a with h1 | ⟨q, h1, h2, h3, h4⟩
  · rw [h1] at h
    exfalso
    have : (-1 : Int) = t := h
    omega
  · rw [h4] at h ⊢
    have : q = t := h
    rw [this]
structure RtI (i : Nat) (s : RA) : Prop where
  dn : s.dn = 6
  sn : s.sn = 10
  up : Up s
  gone : ∀ d, goneS s d = false
  slot : ∀ d a : Nat, d < 6 → slotU s (d : Nat) a = ringU 1 i a
  top : 0 < i → ∀ d : Nat, d < 6 → heldS s ((d : Int), (i : Int) % 8) = encB (ubV i i)
  len : s.waits.length ≤ 6 * i
theorem RtI.next {i : Nat} {s : RA} (h : RtI i s) (hi : i ≤ 1000) : RtI (i + 1) (lwS s (ubV (1 + i) (1 + i))) ∧ lwN s (ubV (1 + i) (1 + i)) = 6 ∧ lwE s (ubV (1 + i) (1 + i)) = 0 := by
  have hE : encE (ubV (1 + i) (1 + i)) = 0 := ubV_enc (by omega)
  have hW : WfU (ubV (1 + i) (1 + i)) := ubV_wf (by omega)
  have h8 : 8 < s.sn := by rw [h.sn]; omega
  obtain ⟨f1, f2, f3, f4, f5, f6⟩ := lwS_facts h.up h8 hE
  obtain ⟨-, e2, e3⟩ := lw_up h.up h8 hE
  rw [cntD_all h.gone, h.dn] at e2 e3
  refine ⟨⟨f2.trans h.dn, f3.trans h.sn, f1, fun d => (f4 d).trans (h.gone d), fun d a hd => ?_, fun _ d hd => ?_, ?_⟩, e2, e3⟩
  · rw [lwS_slot h.up h8 hE hW d (by rw [h.dn]; exact hd), h.slot d a hd, ringU]
    by_cases hc : (1 + i : Int) % 8 = (a : Int)
    · rw [if_pos ⟨hc.symm, h.gone _⟩, if_pos hc]
    · rw [if_neg (fun x => hc x.1.symm), if_neg hc]
  · obtain ⟨m, hm⟩ : ∃ m : Nat, m = (i + 1) % 8 := ⟨_, rfl⟩
    have e := lwS_held h.up h8 hE d (by rw [h.dn]; exact hd) m
    have e1 : (((i + 1 : Nat) : Int)) % 8 = (m : Int) := by omega
    rw [e1, e, if_pos ⟨by show (m : Int) = (1 + (i : Int)) % 8; omega, h.gone _⟩, show (1 + (i : Int)) = ((i + 1 : Nat) : Int) from by omega]
  · have := h.len
    have := h.dn
    omega
/-- the first j drives are rotten -/
structure RoI (c j : Nat) (s : RA) : Prop where
  dn : s.dn = 6
  sn : s.sn = 10
  up : Up s
  gone : ∀ d, goneS s d = false
  slot : ∀ d a : Nat, d < 6 → slotU s (d : Nat) a = if d < j ∧ (a : Int) = (c : Int) % 8 then ⟨-1, zeroP⟩ else ringU 1 c a
  top : ∀ d : Nat, j ≤ d → d < 6 → heldS s ((d : Int), (c : Int) % 8) = encB (ubV c c)
theorem RtI.flush {c : Nat} {s : RA} (h : RtI c s) (hc : 0 < c) : RoI c 0 (allS s) := by
  refine ⟨h.dn, h.sn, allS_up h.up, h.gone, fun d a hd => ?_, fun d _ hd => ?_⟩
  · rw [if_neg (fun x => Nat.not_lt_zero _ x.1), slotU, allS_held]
    exact h.slot d a hd
  · rw [allS_held]
    exact h.top hc d hd
theorem RoI.rot {c j : Nat} {s : RA} (h : RoI c j s) (hc : 1 ≤ c ∧ c ≤ 9) (hj : j < 6) {n : Int} (hn : 0 ≤ n) : RoI c (j + 1) (rotS s ((j : Int), (c : Int) % 8) n) := by
  have hheld := fun q => rotS_held s ((j : Int), (c : Int) % 8) q n
  refine ⟨(rotS_dn _ _ _).trans h.dn, (rotS_sn _ _ _).trans h.sn, rotS_up h.up _ _, fun d => (rotS_gone _ _ _ _).trans (h.gone d), fun d a hd => ?_, fun d hjd hd => ?_⟩
  · by_cases hq : ((d : Int), (a : Int)) = ((j : Int), (c : Int) % 8)
    · have e1 : (d : Int) = j := congrArg Prod.fst hq
      have e2 : (a : Int) = (c : Int) % 8 := congrArg Prod.snd hq
      rw [if_pos ⟨by omega, e2⟩, slotU, hheld, if_pos hq, h.top j (Nat.le_refl _) hj]
      have hk : (n % 128).toNat < 128 := by omega
      have hne : (encB (ubV c c)).getD (n % 128).toNat 0 ^^^ rotX n ≠ (encB (ubV c c)).getD (n % 128).toNat 0 := xor_ne (rotX_ne hn)
      have h0 : decU (rotB (encB (ubV c c)) n) = none := turned_none hc hk hne
      obtain ⟨e3, e4⟩ := decU_no h0
      rw [e4, if_neg (fun x => absurd x.1 (by decide))]
    · have e0 : slotU (rotS s ((j : Int), (c : Int) % 8) n) (d : Nat) a = slotU s (d : Nat) a := by rw [slotU, slotU, hheld, if_neg hq]
      rw [e0, h.slot d a hd]
      have : (d < j ∧ (a : Int) = (c : Int) % 8) ↔ (d < j + 1 ∧ (a : Int) = (c : Int) % 8) := by
        constructor
        · rintro ⟨h1, h2⟩
          exact ⟨by omega, h2⟩
        · rintro ⟨h1, h2⟩
          refine ⟨?_, h2⟩
          rcases Nat.lt_or_ge d j with h3 | h3
          · exact h3
          · exact absurd (by rw [show d = j from by omega, h2]) hq
      simp only [this]
  · rw [hheld, if_neg (fun hq => by have e1 : (d : Int) = j := congrArg Prod.fst hq; omega)]
    exact h.top d (by omega) hd
theorem RoI.five {c : Nat} {s : RA} (h : RoI c 5 s) (hc : 1 ≤ c) : nwU s = ubV c c ∧ nwE s = 0 := by
  obtain ⟨c0, rfl⟩ : ∃ c0, c = c0 + 1 := ⟨c - 1, by omega⟩
  refine newest_is h.up (by rw [h.sn]; omega) (by show 0 < ((c0 + 1 : Nat) : Int); omega) ⟨5, by rw [h.dn]; omega, h.gone _, (c0 + 1) % 8, by omega, ?_⟩ (fun d hd _ a _ => ?_)
  · rw [h.slot 5 _ (by omega), if_neg (fun x => absurd x.1 (by omega)), ringU, if_pos (by omega), show (1 + (c0 : Int)) = ((c0 + 1 : Nat) : Int) from by omega]
  · rw [h.slot d a (by rw [← h.dn]; exact hd)]
    split
    · exact ⟨by show (-1 : Int) ≤ ((c0 + 1 : Nat) : Int); omega, fun h9 => by have h10 : (-1 : Int) = ((c0 + 1 : Nat) : Int) := h9; omega⟩
    · have h1 := (ringU_le 1 (by omega) (c0 + 1) a).1
      exact ⟨by show (ringU 1 (c0 + 1) a).t ≤ ((c0 + 1 : Nat) : Int); omega, fun h9 => ringU_t (by omega) h9 (by show (0 : Int) ≤ ((c0 + 1 : Nat) : Int); omega)⟩
theorem RoI.none {s : RA} (h : RoI 1 6 s) : nwU s = zeroU ∧ nwE s = 7 := by
  have hb : bestR s s.dn = zeroU := best_none (fun d hd _ a ha => by
    rw [h.slot d a (by rw [← h.dn]; exact hd)]
    split
    · show (-1 : Int) ≤ 0; decide
    · rename_i hx
      have : ringU 1 1 a = ⟨-1, zeroP⟩ := by
        rw [ringU, if_neg]
        · rfl
        · intro h1
          refine hx ⟨by rw [← h.dn]; exact hd, ?_⟩
          have h2 : (1 + ((0 : Nat) : Int)) % 8 = (a : Int) := h1
          show (a : Int) = ((1 : Nat) : Int) % 8
          omega
      rw [this]
      show (-1 : Int) ≤ 0; decide)
  obtain ⟨e1, e2⟩ := nw_none (by rw [h.sn]; omega) (downS_up h.up) (by rw [hb]; rfl)
  exact ⟨e2, e1⟩
theorem RoI.six {c : Nat} {s : RA} (h : RoI (c + 1) 6 s) (hc : 1 ≤ c) : nwU s = ubV c c ∧ nwE s = 0 := by
  have hold : ∀ d a : Nat, d < 6 → slotU s (d : Nat) a = ⟨-1, zeroP⟩ ∨ slotU s (d : Nat) a = ringU 1 c a := fun d a hd => by
    rw [h.slot d a hd]
    split
    · exact .inl rfl
    · rename_i hx
      right
      rw [ringU, if_neg]
      intro h1
      exact hx ⟨hd, by omega⟩
  refine newest_is h.up (by rw [h.sn]; omega) (by show 0 < (c : Int); omega) ⟨0, by rw [h.dn]; omega, h.gone _, c % 8, by omega, ?_⟩ (fun d hd _ a _ => ?_)
  · obtain ⟨c0, rfl⟩ : ∃ c0, c = c0 + 1 := ⟨c - 1, by omega⟩
    rw [h.slot 0 _ (by omega), if_neg (fun x => by have := x.2; omega), ringU, if_neg (by omega), ringU, if_pos (by omega), show (1 + (c0 : Int)) = ((c0 + 1 : Nat) : Int) from by omega]
  · rcases hold d a (by rw [← h.dn]; exact hd) with h1 | h1
    · rw [h1]
      exact ⟨by show (-1 : Int) ≤ (c : Int); omega, fun h9 => by have h10 : (-1 : Int) = (c : Int) := h9; omega⟩
    · rw [h1]
      have h2 := (ringU_le 1 (by omega) c a).1
      exact ⟨by show (ringU 1 c a).t ≤ (c : Int); omega, fun h9 => ringU_t (by omega) h9 (by show (0 : Int) ≤ (c : Int); omega)⟩
end Go.Proofs.YtjeldcjchipdgaaDoor
namespace Go.Proofs.YtjeldcjchipdgaaDoor
open Go.RowKit Go.HL
set_option maxRecDepth 100000

set_option maxHeartbeats 4000000 in
theorem labelRots_calls {w : World} {a1 : Option Addr} {c1 : Nat} {l1 : List Int} (x0 : Int) (hf : RSl (· < w.heap.size) w ei a1 c1 l1) (b2 : Bool) :
    Calls Tryd.prog 4 [vi x0, .slice a1 l1.length c1, .bool b2].toArray w (Ret fun v w' => v = .bool true ∧ Chg Nob w w') := by
  have hw := Chg.refl Nob w
  obtain ⟨s0, sd, sn, u0, sg, sh, -, sw, hNew⟩ := new_all 6 10 (by decide) (by decide)
  have sw0 : s0.waits.length = 0 := by rw [sw]; rfl
  obtain ⟨c0, hc0⟩ : ∃ c, c = (B64 x0 % 9).toNat := ⟨_, rfl⟩
  have hc5 : c0 < 9 := by rw [hc0, UInt64.toNat_mod]; exact Nat.mod_lt _ (by decide)
  obtain ⟨c, hc⟩ : ∃ c : Nat, c = c0 + 1 := ⟨_, rfl⟩
  have hI0 : RtI 0 s0 := ⟨sd, sn, u0, sg, fun d a _ => fresh_slot sh _ _, fun h => absurd h (Nat.lt_irrefl 0), by omega⟩
  refine Calls.of_WC Tryd.func4 rfl Tryd.ntmps4 (by simp) ?_
  refine WC.seq (WC.region (WL.assign rfl rfl (WL.nil (WX.then_normal (WC.seq (WC.seq (WC.region (?_))))))))
  refine WL.call eg_9 rfl rfl (known8_calls _) ?_
  rintro v w1 ⟨rfl, k1⟩
  have zs_k1 := k1.size
  replace hw := hw.pure k1
  replace hf := hf.pure k1
  refine WL.not rfl rfl (WL.nil (WX.then_normal (WC.cond_false rfl (WC.skip (WX.then_normal (WC.seq (WC.region (?_))))))))
  refine WL.call eg_15 rfl rfl (hNew _) ?_
  rintro v w2 ⟨⟨R, rfl, hR⟩, k2⟩
  replace hR := hR.mono (A' := (w.heap.size ≤ ·)) (fun x hx => by have := hw.size; omega)
  have zs_k2 := k2.size
  replace hw := hw.pure k2
  replace hf := hf.pure k2
  refine WL.move rfl rfl (WL.extract rfl rfl rfl (WL.extract rfl rfl rfl (WL.assign rfl rfl (WL.assign rfl rfl (WL.nil (WX.then_normal (WC.seq (?_))))))))
  refine WC.seq (WC.region (WL.move rfl rfl (?_)))
  refine WL.neqF rfl rfl rfl (by first | rfl | omega | decide) ?_
  refine WL.nil (WX.then_normal (WC.cond_false rfl (WC.skip (WX.then_normal (WC.seq (WC.region (WL.move rfl rfl (?_))))))))
  refine WL.c_i64_u64 Tryd.underlying3 Tryd.underlying44 rfl rfl (WL.num rfl rfl (n_rem64 _ _ _ 9 (by decide)) rfl (?_))
  refine WL.c_u64_i64s (n := c0) Tryd.underlying44 Tryd.underlying3 rfl ⟨hc0.symm, by omega⟩ rfl ?_
  refine WL.add64 rfl rfl (by constructor <;> omega) rfl ?_
  rw [show (1 : Int) + c0 = (c : Int) from by omega]
  refine WL.assign rfl rfl (WL.nil (WX.then_normal (WC.seq (WC.seq (WC.region (WL.assign rfl rfl (WL.nil (?_))))))))
  refine WX.then_normal (WC.block (?_))
  refine WC.loop (σ := Nat) (fun i => [(0, vi (c : Int)), (1, .slice a1 l1.length c1), (2, .bool b2), (7, ptr R), (9, vi (1 + (i : Int)))])
    (fun i w' => i ≤ c ∧ Chg Nob w w' ∧ RSl (· < w.heap.size) w' ei a1 c1 l1 ∧ ∃ s : RA, RtI i s ∧ RK (w.heap.size ≤ ·) w' R s) (fun i => c - i) 0 ⟨rfl, rfl, rfl, rfl, rfl, trivial⟩
    ⟨Nat.zero_le _, hw, hf, _, hI0, hR⟩ ?_
  clear hw hR hI0 hf
  rintro i w5 ⟨hi, hw, hf, s, hI, hR⟩
  have zw := hw.size
  refine WC.seq (WC.seq (WC.region (WL.move rfl rfl (WL.move rfl rfl (?_)))))
  refine WL.leq? rfl rfl rfl (fun h31 => ?_) (fun h31 => ?_)
  ·
    refine WL.nil (WX.then_normal (WC.cond_true rfl (WC.skip (WX.then_normal (WC.seq (WC.block (WC.seq (?_))))))))
    refine WC.region (WL.move rfl rfl (WL.move rfl rfl (WL.move rfl rfl (?_))))
    refine WL.call eg_17 rfl rfl (lptr_calls (1 + i) (by omega) _) ?_
    rintro v w3 ⟨rfl, k3⟩
    have zs_k3 := k3.size
    replace hw := hw.pure k3
    replace hR := hR.pure k3
    replace hf := hf.pure k3
    refine WL.bld rfl (bld_25_0_1 _ _ _ _ _) rfl (?_)
    obtain ⟨r1, r2, r3⟩ := hI.next (by omega)
    have hlen := hI.len
    refine WL.call eg_16 rfl rfl (lWrite_calls hR (ubV (1 + i) (1 + i)) (ubV_wf (by omega)) (by omega)) ?_
    rintro v w4 ⟨rfl, hR4, k4⟩
    rw [r2, r3]
    replace hR4 := hR4.mono (A' := (w.heap.size ≤ ·)) (fun x hx => by have := hw.size; omega)
    have zs_k4 := k4.size
    replace hw := hw.chg k4 (by first | (intro x h1 h2; exact h2) | (intro x h0 h1 h2; exact hS x h1 h2) | (intro x h0 h1 h2; have h3 : _ = _ := h2; subst h3; exact hSR h1.1) | (intro x h1 h2; have h3 : _ = _ := h2; subst h3; assumption) | (intro x h1 h2; have h3 : _ = _ := h2; exfalso; omega) | (intro b h1 h2 h3; have h4 : _ = _ := h3; (try dsimp only at h2); exfalso; omega) | (intro h1; have h2 : _ = _ := h1; exfalso; omega) | (intro h1; have h2 : _ ≤ _ := h1; exfalso; omega) | (intros; exfalso; (try dsimp only at *); omega) | (intro b h1 h2 h3; exfalso; have h4 := h3.2; (try dsimp only at *); omega) | (intro h1; exfalso; have h4 := h1.2; (try dsimp only at *); omega) | (intro x h1 h2; exfalso; have h4 := h2.2; (try dsimp only at *); omega) | (intro x h1 h2; exact ⟨_, rfl, h2⟩) | (intro x h1 h2; have h4 := h2.1; have h5 := h2.2; exfalso; omega) | (intro x h1 h2; exact h2.1) | (intro x h1 h2; rcases h2.1 with h3 | h3; exact h3; exfalso; omega) | (intro x h1 h2; rcases h2 with h3 | h3; exact h3; exfalso; omega))
    replace hf := hf.chg k4 (by first | (intro x h1 h2; exact h2) | (intro x h0 h1 h2; exact hS x h1 h2) | (intro x h0 h1 h2; have h3 : _ = _ := h2; subst h3; exact hSR h1.1) | (intro x h1 h2; have h3 : _ = _ := h2; subst h3; assumption) | (intro x h1 h2; have h3 : _ = _ := h2; exfalso; omega) | (intro b h1 h2 h3; have h4 : _ = _ := h3; (try dsimp only at h2); exfalso; omega) | (intro h1; have h2 : _ = _ := h1; exfalso; omega) | (intro h1; have h2 : _ ≤ _ := h1; exfalso; omega) | (intros; exfalso; (try dsimp only at *); omega) | (intro b h1 h2 h3; exfalso; have h4 := h3.2; (try dsimp only at *); omega) | (intro h1; exfalso; have h4 := h1.2; (try dsimp only at *); omega) | (intro x h1 h2; exfalso; have h4 := h2.2; (try dsimp only at *); omega) | (intro x h1 h2; exact ⟨_, rfl, h2⟩) | (intro x h1 h2; have h4 := h2.1; have h5 := h2.2; exfalso; omega) | (intro x h1 h2; exact h2.1) | (intro x h1 h2; rcases h2.1 with h3 | h3; exact h3; exfalso; omega) | (intro x h1 h2; rcases h2 with h3 | h3; exact h3; exfalso; omega))
    refine WL.move rfl rfl (WL.extract rfl rfl rfl (WL.extract rfl rfl rfl (WL.assign rfl rfl (WL.assign rfl rfl (WL.nil (WX.then_normal (WC.seq (?_))))))))
    refine WC.region (WL.move rfl rfl (?_))
    refine WL.neqF rfl rfl rfl (rfl) ?_
    refine WL.nil (WX.then_normal (WC.cond_false rfl (WC.skip (WX.block_normal (WX.then_normal (WC.region (WL.move rfl rfl (?_))))))))
    refine WL.add64 rfl rfl (by first | omega | (constructor <;> omega)) rfl (WL.assign rfl rfl (WL.nil (?_)))
    first
      | exact WX.loop_next (i + 1) ⟨rfl, rfl, rfl, rfl, by show some (vi (1 + (i : Int) + 1)) = some (vi (1 + ((i + 1 : Nat) : Int))); rw [show (1 + ((i + 1 : Nat) : Int)) = 1 + (i : Int) + 1 from by omega], trivial⟩ ⟨by omega, hw, hf, _, r1, hR4⟩ (by show _ - _ < _ - _; omega)
      | exact WX.loop_next (j + 1) ⟨rfl, rfl, rfl, rfl, rfl, rfl, trivial⟩ ⟨by omega, hw, hf, _, hI2, hR9⟩ (by show _ - _ < _ - _; omega)
  ·
    refine WL.nil (WX.then_normal (WC.cond_false rfl (WC.exit (WX.then_exit (WX.then_exit (WX.block_here (WX.then_normal (?_))))))))
    refine WC.seq (WC.seq (WC.region (WL.move rfl rfl (?_))))
    have hic : i = c := by omega
    have hRo := (hic ▸ hI).flush (by omega)
    refine WL.call eg_18 rfl rfl (FlushU hR hI.up) ?_
    rintro v w6 ⟨rfl, hR6, k6⟩
    have zs_k6 := k6.size
    replace hw := hw.chg k6 (by first | (intro x h1 h2; exact h2) | (intro x h0 h1 h2; exact hS x h1 h2) | (intro x h0 h1 h2; have h3 : _ = _ := h2; subst h3; exact hSR h1.1) | (intro x h1 h2; have h3 : _ = _ := h2; subst h3; assumption) | (intro x h1 h2; have h3 : _ = _ := h2; exfalso; omega) | (intro b h1 h2 h3; have h4 : _ = _ := h3; (try dsimp only at h2); exfalso; omega) | (intro h1; have h2 : _ = _ := h1; exfalso; omega) | (intro h1; have h2 : _ ≤ _ := h1; exfalso; omega) | (intros; exfalso; (try dsimp only at *); omega) | (intro b h1 h2 h3; exfalso; have h4 := h3.2; (try dsimp only at *); omega) | (intro h1; exfalso; have h4 := h1.2; (try dsimp only at *); omega) | (intro x h1 h2; exfalso; have h4 := h2.2; (try dsimp only at *); omega) | (intro x h1 h2; exact ⟨_, rfl, h2⟩) | (intro x h1 h2; have h4 := h2.1; have h5 := h2.2; exfalso; omega) | (intro x h1 h2; exact h2.1) | (intro x h1 h2; rcases h2.1 with h3 | h3; exact h3; exfalso; omega) | (intro x h1 h2; rcases h2 with h3 | h3; exact h3; exfalso; omega))
    replace hf := hf.chg k6 (by first | (intro x h1 h2; exact h2) | (intro x h0 h1 h2; exact hS x h1 h2) | (intro x h0 h1 h2; have h3 : _ = _ := h2; subst h3; exact hSR h1.1) | (intro x h1 h2; have h3 : _ = _ := h2; subst h3; assumption) | (intro x h1 h2; have h3 : _ = _ := h2; exfalso; omega) | (intro b h1 h2 h3; have h4 : _ = _ := h3; (try dsimp only at h2); exfalso; omega) | (intro h1; have h2 : _ = _ := h1; exfalso; omega) | (intro h1; have h2 : _ ≤ _ := h1; exfalso; omega) | (intros; exfalso; (try dsimp only at *); omega) | (intro b h1 h2 h3; exfalso; have h4 := h3.2; (try dsimp only at *); omega) | (intro h1; exfalso; have h4 := h1.2; (try dsimp only at *); omega) | (intro x h1 h2; exfalso; have h4 := h2.2; (try dsimp only at *); omega) | (intro x h1 h2; exact ⟨_, rfl, h2⟩) | (intro x h1 h2; have h4 := h2.1; have h5 := h2.2; exfalso; omega) | (intro x h1 h2; exact h2.1) | (intro x h1 h2; rcases h2.1 with h3 | h3; exact h3; exfalso; omega) | (intro x h1 h2; rcases h2 with h3 | h3; exact h3; exfalso; omega))
    refine WL.neqF rfl rfl rfl (rfl) ?_
    refine WL.nil (WX.then_normal (WC.cond_false rfl (WC.skip (WX.then_normal (WC.seq (WC.region (WL.assign rfl rfl (?_))))))))
    refine WL.nil (WX.then_normal (WC.seq (WC.seq (WC.region (?_)))))
    obtain ⟨N, hN⟩ : ∃ N : Nat, N = if b2 = true then 6 else 5 := ⟨_, rfl⟩
    cases b2
    ·
      have hNv : vi (N : Int) = vi 5 := by rw [hN]; rfl
      obtain ⟨bb, hbb⟩ : ∃ bb : Bool, bb = false := ⟨_, rfl⟩
      refine WL.move rfl rfl ?_
      refine WL.nil (WX.then_normal (WC.cond_false rfl (WC.skip (WX.then_normal (WC.seq (WC.seq (WC.region (?_))))))))
      refine WL.assign rfl rfl (WL.nil (WX.then_normal (WC.block (?_))))
      have hN6 : N ≤ 6 := by rw [hN]; split <;> omega
      refine WC.loop (σ := Nat) (fun j => [(0, vi (c : Int)), (1, .slice a1 l1.length c1), (2, .bool bb), (7, ptr R), (12, vi (N : Int)), (13, vi (j : Int))])
        (fun j w' => j ≤ N ∧ Chg Nob w w' ∧ RSl (· < w.heap.size) w' ei a1 c1 l1 ∧ ∃ s : RA, RoI c j s ∧ RK (w.heap.size ≤ ·) w' R s) (fun j => N - j) 0 ⟨rfl, rfl, by rw [hbb]; rfl, rfl, by rw [hNv]; rfl, rfl, trivial⟩
        ⟨Nat.zero_le _, hw, hf, _, hRo, hR6⟩ ?_
      clear hw hR6 hRo hf
      rintro j w8 ⟨hj, hw, hf, s, hI, hR⟩
      have zw := hw.size
      refine WC.seq (WC.seq (WC.region (WL.move rfl rfl (WL.move rfl rfl (?_)))))
      refine WL.lss? rfl rfl rfl (fun h51 => ?_) (fun h51 => ?_)
      ·
        refine WL.nil (WX.then_normal (WC.cond_true rfl (WC.skip (WX.then_normal (WC.seq (WC.block (WC.seq (?_))))))))
        refine WC.region (WL.assign rfl rfl (WL.nil (WX.then_normal (WC.seq (WC.seq (WC.region (WL.move rfl rfl (?_))))))))
        refine WL.move rfl rfl (WL.len Tryd.underlying40 rfl rfl (?_))
        refine WL.lss? rfl rfl rfl (fun h57 => ?_) (fun h57 => ?_)
        ·
          refine WL.nil (WX.then_normal (WC.cond_true rfl (WC.region (WL.move rfl rfl (WL.move rfl rfl (?_))))))
          obtain ⟨f, hx⟩ : ∃ f, l1[j]? = some f := ⟨_, List.getElem?_eq_getElem (by omega)⟩
          obtain ⟨k, hk⟩ : ∃ k, k = (B64 f % 100000).toNat := ⟨_, rfl⟩
          have hk5 : k < 100000 := by rw [hk, UInt64.toNat_mod]; exact Nat.mod_lt _ (by decide)
          refine WL.indexT Tryd.underlying40 Tryd.sizeOf3 hf rfl rfl ⟨hx, rfl⟩ rfl ?_
          intro b_1 o_1 hc_1
          refine WL.load Tryd.isAgg3 rfl (hc_1 0 _ rfl) rfl (WL.c_i64_u64 Tryd.underlying3 Tryd.underlying44 rfl rfl (WL.num rfl rfl (n_rem64 _ _ _ 100000 (by decide)) rfl (?_)))
          refine WL.c_u64_i64s (n := k) Tryd.underlying44 Tryd.underlying3 rfl ⟨hk.symm, by omega⟩ rfl ?_
          refine WL.assign rfl rfl (WL.nil (WX.then_normal (WC.seq (WC.region (WL.move rfl rfl (WL.move rfl rfl (WL.move rfl rfl (?_))))))))
          refine WL.rem64i rfl rfl (by constructor <;> omega) rfl (WL.move rfl rfl (?_))
          have hin : inS s (j : Int) ((c : Int) % 8) := by unfold inS; rw [hI.dn, hI.sn]; omega
          first
            | (refine WL.call eg_19 rfl rfl (RotU (n := (k : Int)) hR (fun x hx => by omega) hin (hI.gone _) (by omega)) ?_
               have hI2 := hI.rot (by omega) (by omega) (n := (k : Int)) (by omega))
            | (refine WL.call eg_19 rfl rfl (RotU (n := 100) hR (fun x hx => by omega) hin (hI.gone _) (by omega)) ?_
               have hI2 := hI.rot (by omega) (by omega) (n := 100) (by omega))
          rintro v w9 ⟨rfl, hR9, k9⟩
          have zs_k9 := k9.size
          replace hw := hw.chg k9 (by first | (intro x h1 h2; exact h2) | (intro x h0 h1 h2; exact hS x h1 h2) | (intro x h0 h1 h2; have h3 : _ = _ := h2; subst h3; exact hSR h1.1) | (intro x h1 h2; have h3 : _ = _ := h2; subst h3; assumption) | (intro x h1 h2; have h3 : _ = _ := h2; exfalso; omega) | (intro b h1 h2 h3; have h4 : _ = _ := h3; (try dsimp only at h2); exfalso; omega) | (intro h1; have h2 : _ = _ := h1; exfalso; omega) | (intro h1; have h2 : _ ≤ _ := h1; exfalso; omega) | (intros; exfalso; (try dsimp only at *); omega) | (intro b h1 h2 h3; exfalso; have h4 := h3.2; (try dsimp only at *); omega) | (intro h1; exfalso; have h4 := h1.2; (try dsimp only at *); omega) | (intro x h1 h2; exfalso; have h4 := h2.2; (try dsimp only at *); omega) | (intro x h1 h2; exact ⟨_, rfl, h2⟩) | (intro x h1 h2; have h4 := h2.1; have h5 := h2.2; exfalso; omega) | (intro x h1 h2; exact h2.1) | (intro x h1 h2; rcases h2.1 with h3 | h3; exact h3; exfalso; omega) | (intro x h1 h2; rcases h2 with h3 | h3; exact h3; exfalso; omega))
          replace hf := hf.chg k9 (by first | (intro x h1 h2; exact h2) | (intro x h0 h1 h2; exact hS x h1 h2) | (intro x h0 h1 h2; have h3 : _ = _ := h2; subst h3; exact hSR h1.1) | (intro x h1 h2; have h3 : _ = _ := h2; subst h3; assumption) | (intro x h1 h2; have h3 : _ = _ := h2; exfalso; omega) | (intro b h1 h2 h3; have h4 : _ = _ := h3; (try dsimp only at h2); exfalso; omega) | (intro h1; have h2 : _ = _ := h1; exfalso; omega) | (intro h1; have h2 : _ ≤ _ := h1; exfalso; omega) | (intros; exfalso; (try dsimp only at *); omega) | (intro b h1 h2 h3; exfalso; have h4 := h3.2; (try dsimp only at *); omega) | (intro h1; exfalso; have h4 := h1.2; (try dsimp only at *); omega) | (intro x h1 h2; exfalso; have h4 := h2.2; (try dsimp only at *); omega) | (intro x h1 h2; exact ⟨_, rfl, h2⟩) | (intro x h1 h2; have h4 := h2.1; have h5 := h2.2; exfalso; omega) | (intro x h1 h2; exact h2.1) | (intro x h1 h2; rcases h2.1 with h3 | h3; exact h3; exfalso; omega) | (intro x h1 h2; rcases h2 with h3 | h3; exact h3; exfalso; omega))
          refine WL.neqF rfl rfl rfl (rfl) ?_
          refine WL.nil (WX.then_normal (WC.cond_false rfl (WC.skip (WX.block_normal (WX.then_normal (WC.region (WL.move rfl rfl (?_))))))))
          refine WL.add64 rfl rfl (by first | omega | (constructor <;> omega)) rfl (WL.assign rfl rfl (WL.nil (?_)))
          first
            | exact WX.loop_next (i + 1) ⟨rfl, rfl, rfl, rfl, by show some (vi (1 + (i : Int) + 1)) = some (vi (1 + ((i + 1 : Nat) : Int))); rw [show (1 + ((i + 1 : Nat) : Int)) = 1 + (i : Int) + 1 from by omega], trivial⟩ ⟨by omega, hw, hf, _, r1, hR4⟩ (by show _ - _ < _ - _; omega)
            | exact WX.loop_next (j + 1) ⟨rfl, rfl, rfl, rfl, rfl, rfl, trivial⟩ ⟨by omega, hw, hf, _, hI2, hR9⟩ (by show _ - _ < _ - _; omega)
        ·
          refine WL.nil (WX.then_normal (WC.cond_false rfl (WC.skip (WX.then_normal (WC.seq (WC.region (WL.move rfl rfl (?_))))))))
          refine WL.move rfl rfl (WL.move rfl rfl (WL.rem64i rfl rfl (by constructor <;> omega) rfl (WL.move rfl rfl (?_))))
          have hin : inS s (j : Int) ((c : Int) % 8) := by unfold inS; rw [hI.dn, hI.sn]; omega
          first
            | (refine WL.call eg_19 rfl rfl (RotU (n := (k : Int)) hR (fun x hx => by omega) hin (hI.gone _) (by omega)) ?_
               have hI2 := hI.rot (by omega) (by omega) (n := (k : Int)) (by omega))
            | (refine WL.call eg_19 rfl rfl (RotU (n := 100) hR (fun x hx => by omega) hin (hI.gone _) (by omega)) ?_
               have hI2 := hI.rot (by omega) (by omega) (n := 100) (by omega))
          rintro v w9 ⟨rfl, hR9, k9⟩
          have zs_k9 := k9.size
          replace hw := hw.chg k9 (by first | (intro x h1 h2; exact h2) | (intro x h0 h1 h2; exact hS x h1 h2) | (intro x h0 h1 h2; have h3 : _ = _ := h2; subst h3; exact hSR h1.1) | (intro x h1 h2; have h3 : _ = _ := h2; subst h3; assumption) | (intro x h1 h2; have h3 : _ = _ := h2; exfalso; omega) | (intro b h1 h2 h3; have h4 : _ = _ := h3; (try dsimp only at h2); exfalso; omega) | (intro h1; have h2 : _ = _ := h1; exfalso; omega) | (intro h1; have h2 : _ ≤ _ := h1; exfalso; omega) | (intros; exfalso; (try dsimp only at *); omega) | (intro b h1 h2 h3; exfalso; have h4 := h3.2; (try dsimp only at *); omega) | (intro h1; exfalso; have h4 := h1.2; (try dsimp only at *); omega) | (intro x h1 h2; exfalso; have h4 := h2.2; (try dsimp only at *); omega) | (intro x h1 h2; exact ⟨_, rfl, h2⟩) | (intro x h1 h2; have h4 := h2.1; have h5 := h2.2; exfalso; omega) | (intro x h1 h2; exact h2.1) | (intro x h1 h2; rcases h2.1 with h3 | h3; exact h3; exfalso; omega) | (intro x h1 h2; rcases h2 with h3 | h3; exact h3; exfalso; omega))
          replace hf := hf.chg k9 (by first | (intro x h1 h2; exact h2) | (intro x h0 h1 h2; exact hS x h1 h2) | (intro x h0 h1 h2; have h3 : _ = _ := h2; subst h3; exact hSR h1.1) | (intro x h1 h2; have h3 : _ = _ := h2; subst h3; assumption) | (intro x h1 h2; have h3 : _ = _ := h2; exfalso; omega) | (intro b h1 h2 h3; have h4 : _ = _ := h3; (try dsimp only at h2); exfalso; omega) | (intro h1; have h2 : _ = _ := h1; exfalso; omega) | (intro h1; have h2 : _ ≤ _ := h1; exfalso; omega) | (intros; exfalso; (try dsimp only at *); omega) | (intro b h1 h2 h3; exfalso; have h4 := h3.2; (try dsimp only at *); omega) | (intro h1; exfalso; have h4 := h1.2; (try dsimp only at *); omega) | (intro x h1 h2; exfalso; have h4 := h2.2; (try dsimp only at *); omega) | (intro x h1 h2; exact ⟨_, rfl, h2⟩) | (intro x h1 h2; have h4 := h2.1; have h5 := h2.2; exfalso; omega) | (intro x h1 h2; exact h2.1) | (intro x h1 h2; rcases h2.1 with h3 | h3; exact h3; exfalso; omega) | (intro x h1 h2; rcases h2 with h3 | h3; exact h3; exfalso; omega))
          refine WL.neqF rfl rfl rfl (rfl) ?_
          refine WL.nil (WX.then_normal (WC.cond_false rfl (WC.skip (WX.block_normal (WX.then_normal (WC.region (WL.move rfl rfl (?_))))))))
          refine WL.add64 rfl rfl (by first | omega | (constructor <;> omega)) rfl (WL.assign rfl rfl (WL.nil (?_)))
          first
            | exact WX.loop_next (i + 1) ⟨rfl, rfl, rfl, rfl, by show some (vi (1 + (i : Int) + 1)) = some (vi (1 + ((i + 1 : Nat) : Int))); rw [show (1 + ((i + 1 : Nat) : Int)) = 1 + (i : Int) + 1 from by omega], trivial⟩ ⟨by omega, hw, hf, _, r1, hR4⟩ (by show _ - _ < _ - _; omega)
            | exact WX.loop_next (j + 1) ⟨rfl, rfl, rfl, rfl, rfl, rfl, trivial⟩ ⟨by omega, hw, hf, _, hI2, hR9⟩ (by show _ - _ < _ - _; omega)
      ·
        refine WL.nil (WX.then_normal (WC.cond_false rfl (WC.exit (WX.then_exit (WX.then_exit (WX.block_here (WX.then_normal (?_))))))))
        refine WC.seq (WC.region (WL.move rfl rfl (?_)))
        refine WL.call eg_20 rfl rfl (lNewest_calls hR) ?_
        rintro v w10 ⟨rfl, k10⟩
        have hjN : j = N := by omega
        subst hjN
        subst hN
        obtain ⟨U, E, hU, hE9⟩ : ∃ U E, nwU s = U ∧ nwE s = E := ⟨_, _, rfl, rfl⟩
        rw [hU, hE9]
        have zs_k10 := k10.size
        replace hw := hw.pure k10
        replace hf := hf.pure k10
        refine WL.move rfl rfl (WL.extract rfl rfl rfl (WL.extract rfl rfl rfl (?_)))
        refine WL.alloc Tryd.zeroValue25 rfl ?_
        intro g_1 w_1 hge_1 hlt_1 hb_1 k_1
        have zs_k_1 := k_1.size
        replace hw := hw.pure k_1
        replace hf := hf.pure k_1
        refine WL.stores Tryd.sizeOf25 hb_1 rfl rfl (by first | (simp; done) | (simp; omega) | rfl) (by first | exact Enc.one _ _ | (intro u hu; obtain ⟨x, _, rfl⟩ := List.mem_map.1 hu; rfl) | (simp [Value.oneCell']; done) | (simp [Value.oneCell', Value.cells]; done)) (by first | (simp; done) | (simp; omega) | (simp [Value.cells]; done) | (simp [Value.cells]; omega) | exact Nat.le_of_ble_eq_true rfl) rfl ?_
        intro w_2 hs_2 hn_2 k_2
        have zs_k_2 := k_2.size
        replace hw := hw.chg k_2 (by first | (intro x h1 h2; exact h2) | (intro x h0 h1 h2; exact hS x h1 h2) | (intro x h0 h1 h2; have h3 : _ = _ := h2; subst h3; exact hSR h1.1) | (intro x h1 h2; have h3 : _ = _ := h2; subst h3; assumption) | (intro x h1 h2; have h3 : _ = _ := h2; exfalso; omega) | (intro b h1 h2 h3; have h4 : _ = _ := h3; (try dsimp only at h2); exfalso; omega) | (intro h1; have h2 : _ = _ := h1; exfalso; omega) | (intro h1; have h2 : _ ≤ _ := h1; exfalso; omega) | (intros; exfalso; (try dsimp only at *); omega) | (intro b h1 h2 h3; exfalso; have h4 := h3.2; (try dsimp only at *); omega) | (intro h1; exfalso; have h4 := h1.2; (try dsimp only at *); omega) | (intro x h1 h2; exfalso; have h4 := h2.2; (try dsimp only at *); omega) | (intro x h1 h2; exact ⟨_, rfl, h2⟩) | (intro x h1 h2; have h4 := h2.1; have h5 := h2.2; exfalso; omega) | (intro x h1 h2; exact h2.1) | (intro x h1 h2; rcases h2.1 with h3 | h3; exact h3; exfalso; omega) | (intro x h1 h2; rcases h2 with h3 | h3; exact h3; exfalso; omega))
        replace hf := hf.chg k_2 (by first | (intro x h1 h2; exact h2) | (intro x h0 h1 h2; exact hS x h1 h2) | (intro x h0 h1 h2; have h3 : _ = _ := h2; subst h3; exact hSR h1.1) | (intro x h1 h2; have h3 : _ = _ := h2; subst h3; assumption) | (intro x h1 h2; have h3 : _ = _ := h2; exfalso; omega) | (intro b h1 h2 h3; have h4 : _ = _ := h3; (try dsimp only at h2); exfalso; omega) | (intro h1; have h2 : _ = _ := h1; exfalso; omega) | (intro h1; have h2 : _ ≤ _ := h1; exfalso; omega) | (intros; exfalso; (try dsimp only at *); omega) | (intro b h1 h2 h3; exfalso; have h4 := h3.2; (try dsimp only at *); omega) | (intro h1; exfalso; have h4 := h1.2; (try dsimp only at *); omega) | (intro x h1 h2; exfalso; have h4 := h2.2; (try dsimp only at *); omega) | (intro x h1 h2; exact ⟨_, rfl, h2⟩) | (intro x h1 h2; have h4 := h2.1; have h5 := h2.2; exfalso; omega) | (intro x h1 h2; exact h2.1) | (intro x h1 h2; rcases h2.1 with h3 | h3; exact h3; exfalso; omega) | (intro x h1 h2; rcases h2 with h3 | h3; exact h3; exfalso; omega))
        replace hb_1 := hn_2
        refine WL.assign rfl rfl (WL.nil (WX.then_normal (WC.seq (WC.seq (WC.region (?_))))))
        rw [hbb]
        refine WL.move rfl rfl ?_
        refine WL.not rfl rfl (WL.nil (WX.then_normal (WC.cond_true rfl (WC.seq (?_)))))
        have hb15 := Blk.eqc (cs' := eub.f U) hb_1 rfl
        refine WC.draw (Nob) [0, 1, 2, 3, 4, 5] [6, 7, 8, 9, 10] mixed rfl rfl (fun wd_3 kd_3 zd_3 => ?_)
        have zs_kd_3 := kd_3.size
        replace hw := hw.pure kd_3
        replace hf := hf.pure kd_3
        replace hb15 := hb15.pure kd_3
        apply DQ.step (E' := [(8, _)])
        case ho => rfl
        case hs => exact ⟨rfl, trivial⟩
        case hk => rfl
        case h1 =>
          intro wq_5 kq_5
          refine WL.move rfl rfl (?_)
          refine WL.nil ?_
          exact WX.one ⟨rfl, by first | exact Chg.refl _ _ | assumption⟩
        apply DQ.step (E' := [(79, _)])
        case ho => rfl
        case hs => exact ⟨rfl, trivial⟩
        case hk => rfl
        case h1 =>
          intro wq_6 kq_6
          obtain ⟨m1, m2⟩ := RoI.five hI (by omega)
          refine WL.eqlT rfl rfl rfl ((by rw [← hE9]; exact m2)) ?_
          refine WL.nil ?_
          exact WX.one ⟨rfl, by first | exact Chg.refl _ _ | assumption⟩
        apply DQ.step (E' := [(80, _)])
        case ho => rfl
        case hs => exact ⟨rfl, trivial⟩
        case hk => rfl
        case h1 =>
          intro wq_7 kq_7
          refine WL.move rfl rfl (?_)
          refine WL.nil ?_
          exact WX.one ⟨rfl, by first | exact Chg.refl _ _ | assumption⟩
        apply DQ.step (E' := [(15, _), (81, _)])
        case ho => rfl
        case hs => exact ⟨rfl, rfl, trivial⟩
        case hk => rfl
        case h1 =>
          intro wq_8 kq_8
          have zs_kq_8 := kq_8.size
          replace hw := hw.pure kq_8
          replace hf := hf.pure kq_8
          replace hb15 := hb15.pure kq_8
          refine WL.want rfl rfl rfl (WL.loadsB Tryd.isAgg25 Tryd.sizeOf25 hb15 rfl (by first | (simp; done) | (simp; omega) | rfl) rfl (?_))
          refine WL.nil ?_
          exact WX.one ⟨rfl, by first | exact Chg.refl _ _ | assumption⟩
        apply DQ.step (E' := [(0, _), (81, _)])
        case ho => rfl
        case hs => exact ⟨rfl, rfl, trivial⟩
        case hk => rfl
        case h1 =>
          intro wq_9 kq_9
          refine WL.want rfl rfl rfl (WL.move rfl rfl (?_))
          refine WL.nil ?_
          exact WX.one ⟨rfl, by first | exact Chg.refl _ _ | assumption⟩
        apply DQ.step (E' := [(0, _), (81, _)])
        case ho => rfl
        case hs => exact ⟨rfl, rfl, trivial⟩
        case hk => rfl
        case h1 =>
          intro wq_10 kq_10
          refine WL.want rfl rfl rfl (WL.move rfl rfl (?_))
          refine WL.nil ?_
          exact WX.one ⟨rfl, by first | exact Chg.refl _ _ | assumption⟩
        refine DQ.done (fun hd_4 => ?_)
        refine DL.step [(84, _), (81, _)] rfl ⟨rfl, rfl, trivial⟩ rfl (fun wq_11 kq_11 => ?_)
        have zs_kq_11 := kq_11.size
        replace hw := hw.pure kq_11
        replace hf := hf.pure kq_11
        replace hb15 := hb15.pure kq_11
        replace hd_4 := hd_4.pure kq_11
        refine WL.want rfl rfl rfl (?_)
        refine WL.call eg_17 rfl rfl (lptr_calls c (by omega) _) ?_
        rintro v w12 ⟨rfl, k12⟩
        have zs_k12 := k12.size
        replace hw := hw.pure k12
        replace hf := hf.pure k12
        replace hb15 := hb15.pure k12
        replace hd_4 := hd_4.pure k12
        refine WL.nil ?_
        refine WX.one ⟨hd_4, ?_⟩
        refine DL.step [(83, _), (85, _), (81, _)] rfl ⟨rfl, rfl, rfl, trivial⟩ rfl (fun wq_12 kq_12 => ?_)
        have zs_kq_12 := kq_12.size
        replace hw := hw.pure kq_12
        replace hf := hf.pure kq_12
        replace hb15 := hb15.pure kq_12
        replace hd_4 := hd_4.pure kq_12
        refine WL.want rfl rfl rfl (WL.bld rfl (bld_25_0_1 _ _ _ _ _) rfl (?_))
        refine WL.nil ?_
        refine WX.one ⟨hd_4, ?_⟩
        refine DL.step [(82, _), (86, _), (81, _)] rfl ⟨rfl, rfl, rfl, trivial⟩ rfl (fun wq_13 kq_13 => ?_)
        have zs_kq_13 := kq_13.size
        replace hw := hw.pure kq_13
        replace hf := hf.pure kq_13
        replace hb15 := hb15.pure kq_13
        replace hd_4 := hd_4.pure kq_13
        refine WL.want rfl rfl rfl (?_)
        obtain ⟨m1, m2⟩ := RoI.five hI (by omega)
        have hUU : U = ubV c c := hU.symm.trans m1
        refine WL.aeql eqg_ub (eq_ub U (ubV c c)) rfl rfl rfl ?_
        rw [decide_eq_true hUU]
        refine WL.nil ?_
        refine WX.one ⟨hd_4, ?_⟩
        refine DL.step [(81, _), (87, _)] rfl ⟨rfl, rfl, trivial⟩ rfl (fun wq_14 kq_14 => ?_)
        have zs_kq_14 := kq_14.size
        replace hw := hw.pure kq_14
        replace hf := hf.pure kq_14
        replace hb15 := hb15.pure kq_14
        replace hd_4 := hd_4.pure kq_14
        refine WL.pickT rfl rfl rfl (?_)
        refine WL.nil ?_
        refine WX.one ⟨hd_4, ?_⟩
        refine DL.step [(88, _)] rfl ⟨rfl, trivial⟩ rfl (fun wq_15 kq_15 => ?_)
        have zs_kq_15 := kq_15.size
        replace hw := hw.pure kq_15
        replace hf := hf.pure kq_15
        replace hb15 := hb15.pure kq_15
        replace hd_4 := hd_4.pure kq_15
        refine WL.assign rfl rfl (?_)
        refine WL.nil ?_
        refine WX.one ⟨hd_4, ?_⟩
        refine DL.done (fun we_16 ke_16 => ?_)
        have zs_ke_16 := ke_16.size
        replace hw := hw.pure ke_16
        replace hf := hf.pure ke_16
        replace hb15 := hb15.pure ke_16
        replace hd_4 := hd_4.pure ke_16
        refine WX.then_normal (WC.ret (WX.then_ret (?_)))
        refine WX.ret1 (.inl rfl) Tryd.results4 rfl ?_
        exact ⟨_, rfl, rfl, hw⟩
    ·
      have hNv : vi (N : Int) = vi 6 := by rw [hN]; rfl
      obtain ⟨bb, hbb⟩ : ∃ bb : Bool, bb = true := ⟨_, rfl⟩
      refine WL.move rfl rfl ?_
      refine WL.nil (WX.then_normal (WC.cond_true rfl (WC.region (WL.assign rfl rfl (WL.nil (WX.then_normal (WC.seq (?_))))))))
      refine WC.seq (WC.region (WL.assign rfl rfl (WL.nil (WX.then_normal (WC.block (?_))))))
      have hN6 : N ≤ 6 := by rw [hN]; split <;> omega
      refine WC.loop (σ := Nat) (fun j => [(0, vi (c : Int)), (1, .slice a1 l1.length c1), (2, .bool bb), (7, ptr R), (12, vi (N : Int)), (13, vi (j : Int))])
        (fun j w' => j ≤ N ∧ Chg Nob w w' ∧ RSl (· < w.heap.size) w' ei a1 c1 l1 ∧ ∃ s : RA, RoI c j s ∧ RK (w.heap.size ≤ ·) w' R s) (fun j => N - j) 0 ⟨rfl, rfl, by rw [hbb]; rfl, rfl, by rw [hNv]; rfl, rfl, trivial⟩
        ⟨Nat.zero_le _, hw, hf, _, hRo, hR6⟩ ?_
      clear hw hR6 hRo hf
      rintro j w8 ⟨hj, hw, hf, s, hI, hR⟩
      have zw := hw.size
      refine WC.seq (WC.seq (WC.region (WL.move rfl rfl (WL.move rfl rfl (?_)))))
      refine WL.lss? rfl rfl rfl (fun h51 => ?_) (fun h51 => ?_)
      ·
        refine WL.nil (WX.then_normal (WC.cond_true rfl (WC.skip (WX.then_normal (WC.seq (WC.block (WC.seq (?_))))))))
        refine WC.region (WL.assign rfl rfl (WL.nil (WX.then_normal (WC.seq (WC.seq (WC.region (WL.move rfl rfl (?_))))))))
        refine WL.move rfl rfl (WL.len Tryd.underlying40 rfl rfl (?_))
        refine WL.lss? rfl rfl rfl (fun h57 => ?_) (fun h57 => ?_)
        ·
          refine WL.nil (WX.then_normal (WC.cond_true rfl (WC.region (WL.move rfl rfl (WL.move rfl rfl (?_))))))
          obtain ⟨f, hx⟩ : ∃ f, l1[j]? = some f := ⟨_, List.getElem?_eq_getElem (by omega)⟩
          obtain ⟨k, hk⟩ : ∃ k, k = (B64 f % 100000).toNat := ⟨_, rfl⟩
          have hk5 : k < 100000 := by rw [hk, UInt64.toNat_mod]; exact Nat.mod_lt _ (by decide)
          refine WL.indexT Tryd.underlying40 Tryd.sizeOf3 hf rfl rfl ⟨hx, rfl⟩ rfl ?_
          intro b_1 o_1 hc_1
          refine WL.load Tryd.isAgg3 rfl (hc_1 0 _ rfl) rfl (WL.c_i64_u64 Tryd.underlying3 Tryd.underlying44 rfl rfl (WL.num rfl rfl (n_rem64 _ _ _ 100000 (by decide)) rfl (?_)))
          refine WL.c_u64_i64s (n := k) Tryd.underlying44 Tryd.underlying3 rfl ⟨hk.symm, by omega⟩ rfl ?_
          refine WL.assign rfl rfl (WL.nil (WX.then_normal (WC.seq (WC.region (WL.move rfl rfl (WL.move rfl rfl (WL.move rfl rfl (?_))))))))
          refine WL.rem64i rfl rfl (by constructor <;> omega) rfl (WL.move rfl rfl (?_))
          have hin : inS s (j : Int) ((c : Int) % 8) := by unfold inS; rw [hI.dn, hI.sn]; omega
          first
            | (refine WL.call eg_19 rfl rfl (RotU (n := (k : Int)) hR (fun x hx => by omega) hin (hI.gone _) (by omega)) ?_
               have hI2 := hI.rot (by omega) (by omega) (n := (k : Int)) (by omega))
            | (refine WL.call eg_19 rfl rfl (RotU (n := 100) hR (fun x hx => by omega) hin (hI.gone _) (by omega)) ?_
               have hI2 := hI.rot (by omega) (by omega) (n := 100) (by omega))
          rintro v w9 ⟨rfl, hR9, k9⟩
          have zs_k9 := k9.size
          replace hw := hw.chg k9 (by first | (intro x h1 h2; exact h2) | (intro x h0 h1 h2; exact hS x h1 h2) | (intro x h0 h1 h2; have h3 : _ = _ := h2; subst h3; exact hSR h1.1) | (intro x h1 h2; have h3 : _ = _ := h2; subst h3; assumption) | (intro x h1 h2; have h3 : _ = _ := h2; exfalso; omega) | (intro b h1 h2 h3; have h4 : _ = _ := h3; (try dsimp only at h2); exfalso; omega) | (intro h1; have h2 : _ = _ := h1; exfalso; omega) | (intro h1; have h2 : _ ≤ _ := h1; exfalso; omega) | (intros; exfalso; (try dsimp only at *); omega) | (intro b h1 h2 h3; exfalso; have h4 := h3.2; (try dsimp only at *); omega) | (intro h1; exfalso; have h4 := h1.2; (try dsimp only at *); omega) | (intro x h1 h2; exfalso; have h4 := h2.2; (try dsimp only at *); omega) | (intro x h1 h2; exact ⟨_, rfl, h2⟩) | (intro x h1 h2; have h4 := h2.1; have h5 := h2.2; exfalso; omega) | (intro x h1 h2; exact h2.1) | (intro x h1 h2; rcases h2.1 with h3 | h3; exact h3; exfalso; omega) | (intro x h1 h2; rcases h2 with h3 | h3; exact h3; exfalso; omega))
          replace hf := hf.chg k9 (by first | (intro x h1 h2; exact h2) | (intro x h0 h1 h2; exact hS x h1 h2) | (intro x h0 h1 h2; have h3 : _ = _ := h2; subst h3; exact hSR h1.1) | (intro x h1 h2; have h3 : _ = _ := h2; subst h3; assumption) | (intro x h1 h2; have h3 : _ = _ := h2; exfalso; omega) | (intro b h1 h2 h3; have h4 : _ = _ := h3; (try dsimp only at h2); exfalso; omega) | (intro h1; have h2 : _ = _ := h1; exfalso; omega) | (intro h1; have h2 : _ ≤ _ := h1; exfalso; omega) | (intros; exfalso; (try dsimp only at *); omega) | (intro b h1 h2 h3; exfalso; have h4 := h3.2; (try dsimp only at *); omega) | (intro h1; exfalso; have h4 := h1.2; (try dsimp only at *); omega) | (intro x h1 h2; exfalso; have h4 := h2.2; (try dsimp only at *); omega) | (intro x h1 h2; exact ⟨_, rfl, h2⟩) | (intro x h1 h2; have h4 := h2.1; have h5 := h2.2; exfalso; omega) | (intro x h1 h2; exact h2.1) | (intro x h1 h2; rcases h2.1 with h3 | h3; exact h3; exfalso; omega) | (intro x h1 h2; rcases h2 with h3 | h3; exact h3; exfalso; omega))
          refine WL.neqF rfl rfl rfl (rfl) ?_
          refine WL.nil (WX.then_normal (WC.cond_false rfl (WC.skip (WX.block_normal (WX.then_normal (WC.region (WL.move rfl rfl (?_))))))))
          refine WL.add64 rfl rfl (by first | omega | (constructor <;> omega)) rfl (WL.assign rfl rfl (WL.nil (?_)))
          first
            | exact WX.loop_next (i + 1) ⟨rfl, rfl, rfl, rfl, by show some (vi (1 + (i : Int) + 1)) = some (vi (1 + ((i + 1 : Nat) : Int))); rw [show (1 + ((i + 1 : Nat) : Int)) = 1 + (i : Int) + 1 from by omega], trivial⟩ ⟨by omega, hw, hf, _, r1, hR4⟩ (by show _ - _ < _ - _; omega)
            | exact WX.loop_next (j + 1) ⟨rfl, rfl, rfl, rfl, rfl, rfl, trivial⟩ ⟨by omega, hw, hf, _, hI2, hR9⟩ (by show _ - _ < _ - _; omega)
        ·
          refine WL.nil (WX.then_normal (WC.cond_false rfl (WC.skip (WX.then_normal (WC.seq (WC.region (WL.move rfl rfl (?_))))))))
          refine WL.move rfl rfl (WL.move rfl rfl (WL.rem64i rfl rfl (by constructor <;> omega) rfl (WL.move rfl rfl (?_))))
          have hin : inS s (j : Int) ((c : Int) % 8) := by unfold inS; rw [hI.dn, hI.sn]; omega
          first
            | (refine WL.call eg_19 rfl rfl (RotU (n := (k : Int)) hR (fun x hx => by omega) hin (hI.gone _) (by omega)) ?_
               have hI2 := hI.rot (by omega) (by omega) (n := (k : Int)) (by omega))
            | (refine WL.call eg_19 rfl rfl (RotU (n := 100) hR (fun x hx => by omega) hin (hI.gone _) (by omega)) ?_
               have hI2 := hI.rot (by omega) (by omega) (n := 100) (by omega))
          rintro v w9 ⟨rfl, hR9, k9⟩
          have zs_k9 := k9.size
          replace hw := hw.chg k9 (by first | (intro x h1 h2; exact h2) | (intro x h0 h1 h2; exact hS x h1 h2) | (intro x h0 h1 h2; have h3 : _ = _ := h2; subst h3; exact hSR h1.1) | (intro x h1 h2; have h3 : _ = _ := h2; subst h3; assumption) | (intro x h1 h2; have h3 : _ = _ := h2; exfalso; omega) | (intro b h1 h2 h3; have h4 : _ = _ := h3; (try dsimp only at h2); exfalso; omega) | (intro h1; have h2 : _ = _ := h1; exfalso; omega) | (intro h1; have h2 : _ ≤ _ := h1; exfalso; omega) | (intros; exfalso; (try dsimp only at *); omega) | (intro b h1 h2 h3; exfalso; have h4 := h3.2; (try dsimp only at *); omega) | (intro h1; exfalso; have h4 := h1.2; (try dsimp only at *); omega) | (intro x h1 h2; exfalso; have h4 := h2.2; (try dsimp only at *); omega) | (intro x h1 h2; exact ⟨_, rfl, h2⟩) | (intro x h1 h2; have h4 := h2.1; have h5 := h2.2; exfalso; omega) | (intro x h1 h2; exact h2.1) | (intro x h1 h2; rcases h2.1 with h3 | h3; exact h3; exfalso; omega) | (intro x h1 h2; rcases h2 with h3 | h3; exact h3; exfalso; omega))
          replace hf := hf.chg k9 (by first | (intro x h1 h2; exact h2) | (intro x h0 h1 h2; exact hS x h1 h2) | (intro x h0 h1 h2; have h3 : _ = _ := h2; subst h3; exact hSR h1.1) | (intro x h1 h2; have h3 : _ = _ := h2; subst h3; assumption) | (intro x h1 h2; have h3 : _ = _ := h2; exfalso; omega) | (intro b h1 h2 h3; have h4 : _ = _ := h3; (try dsimp only at h2); exfalso; omega) | (intro h1; have h2 : _ = _ := h1; exfalso; omega) | (intro h1; have h2 : _ ≤ _ := h1; exfalso; omega) | (intros; exfalso; (try dsimp only at *); omega) | (intro b h1 h2 h3; exfalso; have h4 := h3.2; (try dsimp only at *); omega) | (intro h1; exfalso; have h4 := h1.2; (try dsimp only at *); omega) | (intro x h1 h2; exfalso; have h4 := h2.2; (try dsimp only at *); omega) | (intro x h1 h2; exact ⟨_, rfl, h2⟩) | (intro x h1 h2; have h4 := h2.1; have h5 := h2.2; exfalso; omega) | (intro x h1 h2; exact h2.1) | (intro x h1 h2; rcases h2.1 with h3 | h3; exact h3; exfalso; omega) | (intro x h1 h2; rcases h2 with h3 | h3; exact h3; exfalso; omega))
          refine WL.neqF rfl rfl rfl (rfl) ?_
          refine WL.nil (WX.then_normal (WC.cond_false rfl (WC.skip (WX.block_normal (WX.then_normal (WC.region (WL.move rfl rfl (?_))))))))
          refine WL.add64 rfl rfl (by first | omega | (constructor <;> omega)) rfl (WL.assign rfl rfl (WL.nil (?_)))
          first
            | exact WX.loop_next (i + 1) ⟨rfl, rfl, rfl, rfl, by show some (vi (1 + (i : Int) + 1)) = some (vi (1 + ((i + 1 : Nat) : Int))); rw [show (1 + ((i + 1 : Nat) : Int)) = 1 + (i : Int) + 1 from by omega], trivial⟩ ⟨by omega, hw, hf, _, r1, hR4⟩ (by show _ - _ < _ - _; omega)
            | exact WX.loop_next (j + 1) ⟨rfl, rfl, rfl, rfl, rfl, rfl, trivial⟩ ⟨by omega, hw, hf, _, hI2, hR9⟩ (by show _ - _ < _ - _; omega)
      ·
        refine WL.nil (WX.then_normal (WC.cond_false rfl (WC.exit (WX.then_exit (WX.then_exit (WX.block_here (WX.then_normal (?_))))))))
        refine WC.seq (WC.region (WL.move rfl rfl (?_)))
        refine WL.call eg_20 rfl rfl (lNewest_calls hR) ?_
        rintro v w10 ⟨rfl, k10⟩
        have hjN : j = N := by omega
        subst hjN
        subst hN
        obtain ⟨U, E, hU, hE9⟩ : ∃ U E, nwU s = U ∧ nwE s = E := ⟨_, _, rfl, rfl⟩
        rw [hU, hE9]
        have zs_k10 := k10.size
        replace hw := hw.pure k10
        replace hf := hf.pure k10
        refine WL.move rfl rfl (WL.extract rfl rfl rfl (WL.extract rfl rfl rfl (?_)))
        refine WL.alloc Tryd.zeroValue25 rfl ?_
        intro g_1 w_1 hge_1 hlt_1 hb_1 k_1
        have zs_k_1 := k_1.size
        replace hw := hw.pure k_1
        replace hf := hf.pure k_1
        refine WL.stores Tryd.sizeOf25 hb_1 rfl rfl (by first | (simp; done) | (simp; omega) | rfl) (by first | exact Enc.one _ _ | (intro u hu; obtain ⟨x, _, rfl⟩ := List.mem_map.1 hu; rfl) | (simp [Value.oneCell']; done) | (simp [Value.oneCell', Value.cells]; done)) (by first | (simp; done) | (simp; omega) | (simp [Value.cells]; done) | (simp [Value.cells]; omega) | exact Nat.le_of_ble_eq_true rfl) rfl ?_
        intro w_2 hs_2 hn_2 k_2
        have zs_k_2 := k_2.size
        replace hw := hw.chg k_2 (by first | (intro x h1 h2; exact h2) | (intro x h0 h1 h2; exact hS x h1 h2) | (intro x h0 h1 h2; have h3 : _ = _ := h2; subst h3; exact hSR h1.1) | (intro x h1 h2; have h3 : _ = _ := h2; subst h3; assumption) | (intro x h1 h2; have h3 : _ = _ := h2; exfalso; omega) | (intro b h1 h2 h3; have h4 : _ = _ := h3; (try dsimp only at h2); exfalso; omega) | (intro h1; have h2 : _ = _ := h1; exfalso; omega) | (intro h1; have h2 : _ ≤ _ := h1; exfalso; omega) | (intros; exfalso; (try dsimp only at *); omega) | (intro b h1 h2 h3; exfalso; have h4 := h3.2; (try dsimp only at *); omega) | (intro h1; exfalso; have h4 := h1.2; (try dsimp only at *); omega) | (intro x h1 h2; exfalso; have h4 := h2.2; (try dsimp only at *); omega) | (intro x h1 h2; exact ⟨_, rfl, h2⟩) | (intro x h1 h2; have h4 := h2.1; have h5 := h2.2; exfalso; omega) | (intro x h1 h2; exact h2.1) | (intro x h1 h2; rcases h2.1 with h3 | h3; exact h3; exfalso; omega) | (intro x h1 h2; rcases h2 with h3 | h3; exact h3; exfalso; omega))
        replace hf := hf.chg k_2 (by first | (intro x h1 h2; exact h2) | (intro x h0 h1 h2; exact hS x h1 h2) | (intro x h0 h1 h2; have h3 : _ = _ := h2; subst h3; exact hSR h1.1) | (intro x h1 h2; have h3 : _ = _ := h2; subst h3; assumption) | (intro x h1 h2; have h3 : _ = _ := h2; exfalso; omega) | (intro b h1 h2 h3; have h4 : _ = _ := h3; (try dsimp only at h2); exfalso; omega) | (intro h1; have h2 : _ = _ := h1; exfalso; omega) | (intro h1; have h2 : _ ≤ _ := h1; exfalso; omega) | (intros; exfalso; (try dsimp only at *); omega) | (intro b h1 h2 h3; exfalso; have h4 := h3.2; (try dsimp only at *); omega) | (intro h1; exfalso; have h4 := h1.2; (try dsimp only at *); omega) | (intro x h1 h2; exfalso; have h4 := h2.2; (try dsimp only at *); omega) | (intro x h1 h2; exact ⟨_, rfl, h2⟩) | (intro x h1 h2; have h4 := h2.1; have h5 := h2.2; exfalso; omega) | (intro x h1 h2; exact h2.1) | (intro x h1 h2; rcases h2.1 with h3 | h3; exact h3; exfalso; omega) | (intro x h1 h2; rcases h2 with h3 | h3; exact h3; exfalso; omega))
        replace hb_1 := hn_2
        refine WL.assign rfl rfl (WL.nil (WX.then_normal (WC.seq (WC.seq (WC.region (?_))))))
        rw [hbb]
        refine WL.move rfl rfl ?_
        refine WL.not rfl rfl (WL.nil (WX.then_normal (WC.cond_false rfl (WC.skip (WX.then_normal (WC.seq (WC.seq (?_))))))))
        refine WC.region (WL.move rfl rfl (?_))
        refine WL.eql? rfl rfl rfl (fun h90 => ?_) (fun h90 => ?_)
        ·
          refine WL.nil (WX.then_normal (WC.cond_true rfl (WC.seq (WC.region (WL.move rfl rfl (?_))))))
          have hc1 : c = 1 := by omega
          obtain ⟨m1, m2⟩ := RoI.none (hc1 ▸ hI)
          refine WL.eqlT rfl rfl rfl ((by rw [← hE9]; exact m2)) ?_
          refine WL.move rfl rfl (WL.want rfl rfl rfl (?_))
          have hb15 := Blk.eqc (cs' := eub.f U) hb_1 rfl
          refine WL.loads (eub.f U) Tryd.isAgg25 Tryd.sizeOf25 rfl (fun j v hj => by rw [Nat.zero_add]; exact hb15.cell hj) rfl rfl ?_
          refine WL.want rfl rfl rfl (WL.bld rfl (bld_25_z) rfl (WL.want rfl rfl rfl (?_)))
          have hUU : U = zeroU := hU.symm.trans m1
          refine WL.aeql eqg_ub (eq_ub U zeroU) rfl rfl rfl ?_
          rw [decide_eq_true hUU]
          refine WL.pickT rfl rfl rfl (WL.assign rfl rfl (WL.nil (WX.then_normal (WC.ret (WX.then_ret (?_))))))
          refine WX.ret1 (.inl rfl) Tryd.results4 rfl ?_
          exact ⟨_, rfl, rfl, hw⟩
        ·
          refine WL.nil (WX.then_normal (WC.cond_false rfl (WC.skip (WX.then_normal (WC.seq (?_))))))
          have hb15 := Blk.eqc (cs' := eub.f U) hb_1 rfl
          refine WC.draw (Nob) [0, 1, 2, 3, 4, 5, 6, 7] [8, 9, 10, 11, 12] mixed rfl rfl (fun wd_3 kd_3 zd_3 => ?_)
          have zs_kd_3 := kd_3.size
          replace hw := hw.pure kd_3
          replace hf := hf.pure kd_3
          replace hb15 := hb15.pure kd_3
          apply DQ.step (E' := [(8, _)])
          case ho => rfl
          case hs => exact ⟨rfl, trivial⟩
          case hk => rfl
          case h1 =>
            intro wq_5 kq_5
            refine WL.move rfl rfl (?_)
            refine WL.nil ?_
            exact WX.one ⟨rfl, by first | exact Chg.refl _ _ | assumption⟩
          apply DQ.step (E' := [(98, _)])
          case ho => rfl
          case hs => exact ⟨rfl, trivial⟩
          case hk => rfl
          case h1 =>
            intro wq_6 kq_6
            obtain ⟨m1, m2⟩ := RoI.six (c := c0) (hc ▸ hI) (by omega)
            refine WL.eqlT rfl rfl rfl ((by rw [← hE9]; exact m2)) ?_
            refine WL.nil ?_
            exact WX.one ⟨rfl, by first | exact Chg.refl _ _ | assumption⟩
          apply DQ.step (E' := [(99, _)])
          case ho => rfl
          case hs => exact ⟨rfl, trivial⟩
          case hk => rfl
          case h1 =>
            intro wq_7 kq_7
            refine WL.move rfl rfl (?_)
            refine WL.nil ?_
            exact WX.one ⟨rfl, by first | exact Chg.refl _ _ | assumption⟩
          apply DQ.step (E' := [(15, _), (100, _)])
          case ho => rfl
          case hs => exact ⟨rfl, rfl, trivial⟩
          case hk => rfl
          case h1 =>
            intro wq_8 kq_8
            have zs_kq_8 := kq_8.size
            replace hw := hw.pure kq_8
            replace hf := hf.pure kq_8
            replace hb15 := hb15.pure kq_8
            refine WL.want rfl rfl rfl (WL.loadsB Tryd.isAgg25 Tryd.sizeOf25 hb15 rfl (by first | (simp; done) | (simp; omega) | rfl) rfl (?_))
            refine WL.nil ?_
            exact WX.one ⟨rfl, by first | exact Chg.refl _ _ | assumption⟩
          apply DQ.step (E' := [(0, _), (100, _)])
          case ho => rfl
          case hs => exact ⟨rfl, rfl, trivial⟩
          case hk => rfl
          case h1 =>
            intro wq_9 kq_9
            refine WL.want rfl rfl rfl (WL.move rfl rfl (?_))
            refine WL.nil ?_
            exact WX.one ⟨rfl, by first | exact Chg.refl _ _ | assumption⟩
          apply DQ.step (E' := [(102, _), (100, _)])
          case ho => rfl
          case hs => exact ⟨rfl, rfl, trivial⟩
          case hk => rfl
          case h1 =>
            intro wq_10 kq_10
            refine WL.want rfl rfl rfl (WL.sub64 rfl rfl (by first | omega | (constructor <;> omega)) rfl (?_))
            refine WL.nil ?_
            exact WX.one ⟨rfl, by first | exact Chg.refl _ _ | assumption⟩
          apply DQ.step (E' := [(0, _), (100, _)])
          case ho => rfl
          case hs => exact ⟨rfl, rfl, trivial⟩
          case hk => rfl
          case h1 =>
            intro wq_11 kq_11
            refine WL.want rfl rfl rfl (WL.move rfl rfl (?_))
            refine WL.nil ?_
            exact WX.one ⟨rfl, by first | exact Chg.refl _ _ | assumption⟩
          apply DQ.step (E' := [(104, _), (100, _)])
          case ho => rfl
          case hs => exact ⟨rfl, rfl, trivial⟩
          case hk => rfl
          case h1 =>
            intro wq_12 kq_12
            refine WL.want rfl rfl rfl (WL.sub64 rfl rfl (by first | omega | (constructor <;> omega)) rfl (?_))
            refine WL.nil ?_
            exact WX.one ⟨rfl, by first | exact Chg.refl _ _ | assumption⟩
          refine DQ.done (fun hd_4 => ?_)
          refine DL.step [(105, _), (100, _)] rfl ⟨rfl, rfl, trivial⟩ rfl (fun wq_13 kq_13 => ?_)
          have zs_kq_13 := kq_13.size
          replace hw := hw.pure kq_13
          replace hf := hf.pure kq_13
          replace hb15 := hb15.pure kq_13
          replace hd_4 := hd_4.pure kq_13
          refine WL.want rfl rfl rfl (?_)
          refine WL.call eg_17 rfl rfl (lptr_calls (c - 1) (by omega) _) ?_
          rintro v w12 ⟨rfl, k12⟩
          have zs_k12 := k12.size
          replace hw := hw.pure k12
          replace hf := hf.pure k12
          replace hb15 := hb15.pure k12
          replace hd_4 := hd_4.pure k12
          refine WL.nil ?_
          refine WX.one ⟨hd_4, ?_⟩
          refine DL.step [(103, _), (106, _), (100, _)] rfl ⟨rfl, rfl, rfl, trivial⟩ rfl (fun wq_14 kq_14 => ?_)
          have zs_kq_14 := kq_14.size
          replace hw := hw.pure kq_14
          replace hf := hf.pure kq_14
          replace hb15 := hb15.pure kq_14
          replace hd_4 := hd_4.pure kq_14
          refine WL.want rfl rfl rfl (WL.bld rfl (bld_25_0_1 _ _ _ _ _) rfl (?_))
          refine WL.nil ?_
          refine WX.one ⟨hd_4, ?_⟩
          refine DL.step [(101, _), (107, _), (100, _)] rfl ⟨rfl, rfl, rfl, trivial⟩ rfl (fun wq_15 kq_15 => ?_)
          have zs_kq_15 := kq_15.size
          replace hw := hw.pure kq_15
          replace hf := hf.pure kq_15
          replace hb15 := hb15.pure kq_15
          replace hd_4 := hd_4.pure kq_15
          refine WL.want rfl rfl rfl (?_)
          obtain ⟨m1, m2⟩ := RoI.six (c := c0) (hc ▸ hI) (by omega)
          have hUU : U = ubV ((c : Int) - 1) ((c : Int) - 1) := by rw [show ((c : Int) - 1) = c0 from by omega]; exact hU.symm.trans m1
          refine WL.aeql eqg_ub (eq_ub U (ubV ((c : Int) - 1) ((c : Int) - 1))) rfl rfl rfl ?_
          rw [decide_eq_true hUU]
          refine WL.nil ?_
          refine WX.one ⟨hd_4, ?_⟩
          refine DL.step [(100, _), (108, _)] rfl ⟨rfl, rfl, trivial⟩ rfl (fun wq_16 kq_16 => ?_)
          have zs_kq_16 := kq_16.size
          replace hw := hw.pure kq_16
          replace hf := hf.pure kq_16
          replace hb15 := hb15.pure kq_16
          replace hd_4 := hd_4.pure kq_16
          refine WL.pickT rfl rfl rfl (?_)
          refine WL.nil ?_
          refine WX.one ⟨hd_4, ?_⟩
          refine DL.step [(109, _)] rfl ⟨rfl, trivial⟩ rfl (fun wq_17 kq_17 => ?_)
          have zs_kq_17 := kq_17.size
          replace hw := hw.pure kq_17
          replace hf := hf.pure kq_17
          replace hb15 := hb15.pure kq_17
          replace hd_4 := hd_4.pure kq_17
          refine WL.assign rfl rfl (?_)
          refine WL.nil ?_
          refine WX.one ⟨hd_4, ?_⟩
          refine DL.done (fun we_18 ke_18 => ?_)
          have zs_ke_18 := ke_18.size
          replace hw := hw.pure ke_18
          replace hf := hf.pure ke_18
          replace hb15 := hb15.pure ke_18
          replace hd_4 := hd_4.pure ke_18
          refine WX.then_normal (WC.ret (?_))
          refine WX.ret1 (.inl rfl) Tryd.results4 rfl ?_
          exact ⟨_, rfl, rfl, hw⟩
end Go.Proofs.YtjeldcjchipdgaaDoor
