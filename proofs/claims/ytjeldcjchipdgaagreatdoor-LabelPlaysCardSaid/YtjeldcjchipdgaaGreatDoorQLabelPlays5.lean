import Derived.Test.YtjeldcjchipdgaaGreatDoorQLabelPlays4
namespace Go.Proofs.YtjeldcjchipdgaaGreatDoor
open Go.RowKit Go.HL
set_option maxRecDepth 100000
theorem m32 (y : UInt64) : y &&& 4294967295 = y.toUInt32.toUInt64 := by
 apply UInt64.toNat_inj.1
 rw [UInt64.toNat_and]
 show y.toNat &&& (2 ^ 32 - 1) = _
 rw [Nat.and_two_pow_sub_one_eq_mod]
 simp
theorem up_shl (x : UInt32) {k : Nat} (h : k < 32) : (x.toUInt64 <<< UInt64.ofNat k).toUInt32 = x <<< UInt32.ofNat k := by
 apply UInt32.toNat_inj.1
 have e1 : k % 18446744073709551616 % 64 = k := by omega
 have e2 : k % 4294967296 % 32 = k := by omega
 simp [UInt64.toNat_shiftLeft, UInt32.toNat_shiftLeft, e1, e2]
theorem up_shr (x : UInt32) {k : Nat} (h : k < 32) : (x.toUInt64 >>> UInt64.ofNat k).toUInt32 = x >>> UInt32.ofNat k := by
 apply UInt32.toNat_inj.1
 have e1 : k % 18446744073709551616 % 64 = k := by omega
 have e2 : k % 4294967296 % 32 = k := by omega
 have h3 : x.toNat >>> k < 4294967296 := Nat.lt_of_le_of_lt (by rw [Nat.shiftRight_eq_div_pow]; exact Nat.div_le_self _ _) x.toNat_lt
 simp [UInt64.toNat_shiftRight, UInt32.toNat_shiftRight, e1, e2, Nat.mod_eq_of_lt h3]
theorem up_down (x : UInt32) : x.toUInt64.toUInt32 = x := by
 apply UInt32.toNat_inj.1
 simp
theorem ror_up (x : UInt32) {n : Nat} (h : 1 ≤ n ∧ n ≤ 31) : ((x.toUInt64 >>> UInt64.ofNat n) ||| (x.toUInt64 <<< UInt64.ofNat (32 - n))) &&& 4294967295 = (rotr x n).toUInt64 := by
 rw [m32, UInt64.toUInt32_or, up_shr x (by omega), up_shl x (by omega), UInt32.or_comm]
 rfl
theorem ror64_calls (x : UInt32) (n : Nat) (w : World) (h : 1 ≤ n ∧ n ≤ 31) : Calls Tryz.prog 103 [v64 x.toUInt64, vi (n : Int)].toArray w (Ret fun v w' => v = v64 (rotr x n).toUInt64 ∧ Chg Nob w w') := by
 have hw := Chg.refl Nob w
 have he := ror_up x h
 refine Calls.of_WC Tryz.func103 rfl Tryz.ntmps103 (by simp) ?_
 refine WC.sr (WL.assign rfl rfl (WL.t (WC.seq (WC.qc (Nob) [0, 1, 2, 3, 4, 5, 6, 7, 8, 9] [] mixed rfl rfl (fun wd_1 kd_1 zd_1 => ?_)))))
 replace hw := hw.pure kd_1
 apply DQ.step [(0, _)] rfl ⟨rfl, trivial⟩ rfl (fun _ _ => WL.move rfl rfl  WL.q)
 apply DQ.step [(1, _)] rfl ⟨rfl, trivial⟩ rfl (fun _ _ => WL.move rfl rfl  WL.q)
 apply DQ.step [(5, _), (6, _)] rfl ⟨rfl, rfl, trivial⟩ rfl
 ·intro wq_4 kq_4
  refine WL.shrv n rfl rfl ⟨rfl, by omega⟩ rfl ?_
  exact WL.q
 apply DQ.step [(0, _)] rfl ⟨rfl, trivial⟩ rfl (fun _ _ => WL.move rfl rfl  WL.q)
 apply DQ.step [(1, _)] rfl ⟨rfl, trivial⟩ rfl (fun _ _ => WL.move rfl rfl  WL.q)
 apply DQ.step [(9, _)] rfl ⟨rfl, trivial⟩ rfl (fun _ _ => WL.qn rfl rfl (by omega) rfl  WL.q)
 apply DQ.step [(8, _), (10, _)] rfl ⟨rfl, rfl, trivial⟩ rfl
 ·intro wq_8 kq_8
  refine WL.shlv (32 - n) rfl rfl ⟨by omega, by omega⟩ rfl ?_
  exact WL.q
 apply DQ.step [(7, _), (11, _)] rfl ⟨rfl, rfl, trivial⟩ rfl (fun _ _ => WL.num rfl rfl (n_or64 _ _ _ _) rfl  WL.q)
 apply DQ.step [(12, _)] rfl ⟨rfl, trivial⟩ rfl (fun _ _ => WL.num rfl rfl (n_and64 _ _ _ 4294967295) rfl  WL.q)
 apply DQ.step [(13, _)] rfl ⟨rfl, trivial⟩ rfl (fun _ _ => WL.assign rfl rfl  WL.q)
 refine DQ.done (fun _ => ?_)
 refine DL.done (fun we_12 ke_12 => ?_)
 replace hw := hw.pure ke_12
 refine WX.qa (WC.ret (WX.qg (.inl rfl) Tryz.results103 rfl ?_))
 rw [← he]
 exact ⟨_, rfl, rfl, hw⟩
theorem mul8 {n : Nat} (h : n ≤ 4000) : B64 (n : Int) * 8 = UInt64.ofNat n <<< UInt64.ofNat 3 := by
 apply UInt64.toNat_inj.1
 rw [UInt64.toNat_mul, B64_nat (by omega), UInt64.toNat_shiftLeft]
 simp [Nat.shiftLeft_eq]
set_option maxHeartbeats 1000000 in
theorem message_calls (s : ByteArray) (w : World) (hl : s.size ≤ 4000) :
 Calls Tryz.prog 102 [.string s].toArray w (Ret fun v w' => (∃ (ao' : Option Addr) (c' : Nat), v = .slice ao' (padded s.data.toList).length c' ∧ Row (w.heap.size ≤ ·) w' 5 eb ao' c' (padded s.data.toList)) ∧ Chg Nob w w') := by
 have hw := Chg.refl Nob w
 have hsz : s.size = s.data.toList.length := by simp
 obtain ⟨b, eb0⟩ : ∃ b, b = s.data.toList := ⟨_, rfl⟩
 rw [← eb0] at hsz ⊢
 refine Calls.of_WC Tryz.func102 rfl Tryz.ntmps102 (by simp) ?_
 refine WC.sr (WL.assign rfl rfl (WL.t (WC.sr (WL.move rfl rfl (WL.toBytes Tryz.underlying9 Tryz.underlying51 Tryz.underlying5 rfl (by omega) rfl ?_)))))
 intro a_hq c_hq w_hq hq k_hq z_hq
 have zs_k_hq := k_hq.size
 replace hw := hw.pure k_hq
 rw [← eb0] at hq ⊢
 refine WL.build (e := eb) [128] Tryz.underlying51 Tryz.sizeOf5 Tryz.zeroValue5 rfl rfl rfl (by simp [Value.cells] <;> rfl) (by decide) rfl ?_
 intro a_hn w_hn hn l_hn z_hn k_hn
 replace hw := hw.pure k_hn
 replace hq := hq.pure k_hn
 refine WL.append (e := eb) info_5 rfl Tryz.underlying51 rfl rfl hq (hn.rsl.src Tryz.underlying51) (by (try simp only [List.length_append, List.length_cons, List.length_nil] at *); omega) (by intro b hb; first | (apply hS; omega) | ((try dsimp only); omega)) rfl ?_
 intro a_hq1 c_hq1 w_hq1 hq1 g_hq1 n_hq1
 replace hw := hw.chg g_hq1.chg (by intros; exfalso; (try dsimp only at *); omega)
 refine WL.assign rfl rfl (WL.t (WC.seq (WC.block (?_))))
 have hq1' : Row (w.heap.size ≤ ·) _ 5 eb a_hq1 c_hq1 (b ++ [128]) := hq1.mono (fun x hx => by omega)
 refine WC.loop (σ := Nat × Option Addr × Nat) (fun q => [(3, .slice q.2.1 (b ++ [128] ++ List.replicate q.1 0).length q.2.2), (0, .string s)])
  (fun q w' => q.1 ≤ (120 - (b.length + 1) % 64) % 64 ∧ Row (w.heap.size ≤ ·) w' 5 eb q.2.1 q.2.2 (b ++ [128] ++ List.replicate q.1 0) ∧ Chg Nob w w') (fun q => 64 - q.1) (0, a_hq1, c_hq1) ⟨by rw [show List.replicate 0 (0 : UInt8) = [] from rfl, List.append_nil]; rfl, rfl, trivial⟩ ⟨by simp, by simpa using hq1', hw⟩ ?_
 clear hw hn hq1 hq hq1'
 rintro ⟨j, a1, c1⟩ w2 ⟨hj, hq, hw⟩
 dsimp only at hj hq hw ⊢
 have zw := hw.size
 have hlen : (b ++ [128] ++ List.replicate j 0).length = b.length + 1 + j := by simp; omega
 refine WC.seq (WC.sr (WL.move rfl rfl (WL.len Tryz.underlying51 rfl rfl (WL.qw rfl rfl (by constructor <;> omega) rfl (?_)))))
 refine WL.qk rfl rfl rfl (fun h13 => ?_) (fun h13 => ?_)
 ·refine WL.t (WC.qb rfl (WC.skip (WX.qa (WC.block (WC.region (WL.move rfl rfl (?_)))))))
  refine WL.build (e := eb) [0] Tryz.underlying51 Tryz.sizeOf5 Tryz.zeroValue5 rfl rfl rfl (by simp [Value.cells] <;> rfl) (by decide) rfl ?_
  intro a_hn w_hn hn l_hn z_hn k_hn
  replace hq := hq.pure k_hn
  replace hw := hw.pure k_hn
  refine WL.append (e := eb) info_5 rfl Tryz.underlying51 rfl rfl hq (hn.rsl.src Tryz.underlying51) (by (try simp only [List.length_append, List.length_cons, List.length_nil] at *); omega) (by intro b hb; first | (apply hS; omega) | ((try dsimp only); omega)) rfl ?_
  intro a_hq2 c_hq2 w_hq2 hq2 g_hq2 n_hq2
  replace hw := hw.chg g_hq2.chg (by intros; exfalso; (try dsimp only at *); omega)
  refine WL.assign rfl rfl (WL.nil (WX.qd (?_)))
  first
   |(have e1 : b ++ [128] ++ List.replicate (j + 1) 0 = b ++ [128] ++ List.replicate j 0 ++ [0] := by rw [List.replicate_succ', List.append_assoc, List.append_assoc, List.append_assoc]
     refine WX.qc (j + 1, a_hq2, c_hq2) ⟨?_, rfl, trivial⟩ ⟨by dsimp only; omega, ?_, hw⟩ (by show _ - _ < _ - _; omega)
     ·dsimp only; rw [e1]; rfl
     ·dsimp only; rw [e1]; exact hq2)
   |(have e1 : be8 (UInt64.ofNat b.length <<< UInt64.ofNat 3) (i + 1) = be8 (UInt64.ofNat b.length <<< UInt64.ofNat 3) i ++ [((UInt64.ofNat b.length <<< UInt64.ofNat 3) >>> UInt64.ofNat (56 - 8 * i)).toUInt8] := by simp [be8, List.range_succ]
     refine WX.qc (i + 1, a_hq2, c_hq2) ⟨?_, rfl, ?_, trivial⟩ ⟨by dsimp only; omega, ?_, hw⟩ (by show _ - _ < _ - _; omega)
     ·dsimp only; rw [e1, ← List.append_assoc]; rfl
     ·dsimp only
      have e2 : 56 - 8 * ((i + 1 : Nat) : Int) = 56 - 8 * (i : Int) - 8 := by omega
      rw [e2]; rfl
     ·dsimp only; rw [e1, ← List.append_assoc]; exact hq2)
 ·refine WL.t (WC.qa rfl (WC.exit (WX.qe (WX.qe (WX.qh (WX.qa (WC.sr (WL.move rfl rfl (WL.qv Tryz.underlying9 rfl rfl (WL.qs Tryz.underlying3 Tryz.underlying24 rfl rfl (WL.num rfl rfl (n_mul64 _ _ _ 8) rfl (WL.assign rfl rfl (WL.nil (WX.qa (WC.seq (WC.sr (WL.assign rfl rfl (WL.t (WC.block (?_))))))))))))))))))))
  have hz : j = (120 - (b.length + 1) % 64) % 64 := by omega
  rw [show B64 (s.size : Int) * 8 = UInt64.ofNat b.length <<< UInt64.ofNat 3 from by rw [hsz]; exact mul8 (by omega)]
  refine WC.loop (σ := Nat × Option Addr × Nat) (fun q => [(3, .slice q.2.1 (b ++ [128] ++ List.replicate j 0 ++ be8 (UInt64.ofNat b.length <<< UInt64.ofNat 3) q.1).length q.2.2), (4, v64 (UInt64.ofNat b.length <<< UInt64.ofNat 3)), (5, vi (56 - 8 * (q.1 : Int)))])
   (fun q w' => q.1 ≤ 8 ∧ Row (w.heap.size ≤ ·) w' 5 eb q.2.1 q.2.2 (b ++ [128] ++ List.replicate j 0 ++ be8 (UInt64.ofNat b.length <<< UInt64.ofNat 3) q.1) ∧ Chg Nob w w') (fun q => 8 - q.1) (0, a1, c1) ⟨by rw [show be8 (UInt64.ofNat b.length <<< UInt64.ofNat 3) 0 = [] from rfl, List.append_nil]; rfl, rfl, rfl, trivial⟩ ⟨by simp, by simpa [be8] using hq, hw⟩ ?_
  clear hw hq
  rintro ⟨i, a2, c2⟩ w3 ⟨hi, hq, hw⟩
  dsimp only at hi hq hw ⊢
  have zw3 := hw.size
  have hlen3 : (b ++ [128] ++ List.replicate j 0 ++ be8 (UInt64.ofNat b.length <<< UInt64.ofNat 3) i).length = b.length + 1 + j + i := by simp [be8]; omega
  refine WC.seq (WC.sr (WL.move rfl rfl (WL.qx rfl rfl rfl (fun h22 => ?_) (fun h22 => ?_))))
  ·refine WL.t (WC.qb rfl (WC.skip (WX.qa (WC.seq (WC.block (WC.region (WL.move rfl rfl (WL.move rfl rfl (WL.move rfl rfl (WL.shrv (56 - 8 * i) rfl rfl ⟨by omega, by omega⟩ rfl ?_))))))))))
   refine WL.c_u64_u8 Tryz.underlying24 Tryz.underlying5 rfl rfl (?_)
   refine WL.build (e := eb) [((UInt64.ofNat b.length <<< UInt64.ofNat 3) >>> UInt64.ofNat (56 - 8 * i)).toUInt8] Tryz.underlying51 Tryz.sizeOf5 Tryz.zeroValue5 rfl rfl rfl (by simp [Value.cells] <;> rfl) (by decide) rfl ?_
   intro a_hn w_hn hn l_hn z_hn k_hn
   replace hq := hq.pure k_hn
   replace hw := hw.pure k_hn
   refine WL.append (e := eb) info_5 rfl Tryz.underlying51 rfl rfl hq (hn.rsl.src Tryz.underlying51) (by (try simp only [List.length_append, List.length_cons, List.length_nil] at *); omega) (by intro b hb; first | (apply hS; omega) | ((try dsimp only); omega)) rfl ?_
   intro a_hq2 c_hq2 w_hq2 hq2 g_hq2 n_hq2
   replace hw := hw.chg g_hq2.chg (by intros; exfalso; (try dsimp only at *); omega)
   refine WL.assign rfl rfl (WL.nil (WX.qd (WX.qa (WC.region (WL.move rfl rfl (WL.qn rfl rfl (by omega) rfl (WL.assign rfl rfl (?_))))))))
   refine WL.nil (?_)
   first
    |(have e1 : b ++ [128] ++ List.replicate (j + 1) 0 = b ++ [128] ++ List.replicate j 0 ++ [0] := by rw [List.replicate_succ', List.append_assoc, List.append_assoc, List.append_assoc]
      refine WX.qc (j + 1, a_hq2, c_hq2) ⟨?_, rfl, trivial⟩ ⟨by dsimp only; omega, ?_, hw⟩ (by show _ - _ < _ - _; omega)
      ·dsimp only; rw [e1]; rfl
      ·dsimp only; rw [e1]; exact hq2)
    |(have e1 : be8 (UInt64.ofNat b.length <<< UInt64.ofNat 3) (i + 1) = be8 (UInt64.ofNat b.length <<< UInt64.ofNat 3) i ++ [((UInt64.ofNat b.length <<< UInt64.ofNat 3) >>> UInt64.ofNat (56 - 8 * i)).toUInt8] := by simp [be8, List.range_succ]
      refine WX.qc (i + 1, a_hq2, c_hq2) ⟨?_, rfl, ?_, trivial⟩ ⟨by dsimp only; omega, ?_, hw⟩ (by show _ - _ < _ - _; omega)
      ·dsimp only; rw [e1, ← List.append_assoc]; rfl
      ·dsimp only
       have e2 : 56 - 8 * ((i + 1 : Nat) : Int) = 56 - 8 * (i : Int) - 8 := by omega
       rw [e2]; rfl
      ·dsimp only; rw [e1, ← List.append_assoc]; exact hq2)
  ·refine WL.t (WC.qa rfl (WC.exit (WX.qe (WX.qe (WX.qh (WX.qa (WC.sr (WL.move rfl rfl (WL.assign rfl rfl (WL.t (WC.ret (WX.qg (.inl rfl) Tryz.results102 rfl ?_))))))))))))
   have hi8 : i = 8 := by omega
   have e1 : padded b = b ++ [128] ++ List.replicate j 0 ++ be8 (UInt64.ofNat b.length <<< UInt64.ofNat 3) i := by rw [hi8, hz]; rfl
   rw [e1]
   exact ⟨_, rfl, ⟨a2, c2, rfl, hq⟩, hw⟩
def okT (out : List UInt64) (p : UInt64) (i : Nat) : Bool := (out.take i).all fun x => decide (((p % x).toNat : Int) ≠ 0)
def stepP (out : List UInt64) (p : UInt64) : List UInt64 := if okT out p out.length then out ++ [p] else out
def outAt : Nat → List UInt64
 |0 => []
 |j + 1 => stepP (outAt j) (UInt64.ofNat (2 + j))
def P64 : List UInt64 := [2, 3, 5, 7, 11, 13, 17, 19, 23, 29, 31, 37, 41, 43, 47, 53, 59, 61, 67, 71, 73, 79, 83, 89, 97, 101, 103, 107, 109, 113, 127, 131, 137, 139, 149, 151, 157, 163, 167, 173, 179, 181, 191, 193, 197, 199, 211, 223, 227, 229, 233, 239, 241, 251, 257, 263, 269, 271, 277, 281, 283, 293, 307, 311]
set_option maxRecDepth 10000 in
theorem outAt_310 : outAt 310 = P64 := by decide +kernel
theorem outAt_pre (k : Nat) : ∀ j, j + k = 310 → outAt j <+: P64 := by
 induction k with
 |zero => intro j h; rw [show j = 310 from by omega, outAt_310]; exact List.prefix_refl _
 |succ k ih =>
  intro j h
  refine List.IsPrefix.trans ?_ (ih (j + 1) (by omega))
  rw [outAt, stepP]
  split
  ·exact List.prefix_append _ _
  ·exact List.prefix_refl _
theorem outAt_pos {j : Nat} (h : j ≤ 310) : ∀ x ∈ outAt j, x.toNat ≠ 0 := by
 have h1 : ∀ x ∈ P64, x.toNat ≠ 0 := by decide +kernel
 exact fun x hx => h1 x ((outAt_pre (310 - j) j (by omega)).mem hx)
theorem outAt_len {j : Nat} (h : j ≤ 310) : (outAt j).length ≤ 64 := (outAt_pre (310 - j) j (by omega)).length_le
theorem outAt_more {j : Nat} (h : j ≤ 310) (hl : (outAt j).length < 64) : j < 310 := by
 rcases Nat.lt_or_ge j 310 with h1 | h1
 ·exact h1
 ·rw [show j = 310 from by omega, outAt_310] at hl
  exact absurd hl (by decide)
theorem outAt_end {j : Nat} (h : j ≤ 310) (hl : 64 ≤ (outAt j).length) : outAt j = P64 := (outAt_pre (310 - j) j (by omega)).eq_of_length_le hl
theorem okT_next {out : List UInt64} {p x : UInt64} {i : Nat} (h : out[i]? = some x) : okT out p (i + 1) = (okT out p i && decide (((p % x).toNat : Int) ≠ 0)) := by
 rw [okT, okT, List.take_add_one, h, List.all_append]
 simp
theorem nextP {j : Nat} (h : j ≤ 310) : UInt64.ofNat (2 + j) + 1 = UInt64.ofNat (2 + (j + 1)) := by
 apply UInt64.toNat_inj.1
 rw [UInt64.toNat_add]
 simp
 omega
set_option maxHeartbeats 1000000 in
theorem primes_calls (w : World) : Calls Tryz.prog 100 [vi 64].toArray w (Ret fun v w' => (∃ (ao' : Option Addr) (c' : Nat), v = .slice ao' P64.length c' ∧ Row (w.heap.size ≤ ·) w' 24 e64 ao' c' P64) ∧ Chg Nob w w') := by
 have hw := Chg.refl Nob w
 refine Calls.of_WC Tryz.func100 rfl Tryz.ntmps100 (by simp) ?_
 refine WC.sr (WL.assign rfl rfl (WL.t (WC.sr (WL.assign rfl rfl (WL.t (WC.seq (WC.sr (WL.assign rfl rfl (WL.t (WC.block (?_)))))))))))
 refine WC.loop (σ := Nat × Option Addr × Nat) (fun q => [(0, vi 64), (3, .slice q.2.1 (outAt q.1).length q.2.2), (4, v64 (UInt64.ofNat (2 + q.1)))])
  (fun q w' => q.1 ≤ 310 ∧ Row (w.heap.size ≤ ·) w' 24 e64 q.2.1 q.2.2 (outAt q.1) ∧ Chg Nob w w') (fun q => 400 - q.1) (0, none, 0) ⟨rfl, rfl, rfl, trivial⟩ ⟨Nat.zero_le _, Row.nil _ _ _ _, hw⟩ ?_
 clear hw
 rintro ⟨j, ao, c⟩ w8 ⟨hj, hq, hw⟩
 dsimp only at hj hq hw ⊢
 have hol := outAt_len hj
 have zw := hw.size
 refine WC.seq (WC.sr (WL.move rfl rfl (WL.len Tryz.underlying162 rfl rfl (WL.move rfl rfl (WL.qi rfl rfl rfl (fun h10 => ?_) (fun h10 => ?_))))))
 ·refine WL.t (WC.qb rfl (WC.skip (WX.qa (WC.seq (WC.block (WC.seq (WC.region (WL.assign rfl rfl (WL.t (WC.seq (WC.sr (WL.assign rfl rfl (WL.t (WC.block (?_)))))))))))))))
  have hj2 : j < 310 := outAt_more hj (by omega)
  have hpos := outAt_pos hj
  refine WC.loop (σ := Nat) (fun i => [(0, vi 64), (3, .slice ao (outAt j).length c), (4, v64 (UInt64.ofNat (2 + j))), (5, .bool (okT (outAt j) (UInt64.ofNat (2 + j)) i)), (6, vi i)])
   (fun i w' => i ≤ (outAt j).length ∧ Row (w.heap.size ≤ ·) w' 24 e64 ao c (outAt j) ∧ Chg Nob w w') (fun i => (outAt j).length - i) 0 ⟨rfl, rfl, rfl, rfl, rfl, trivial⟩ ⟨Nat.zero_le _, hq, hw⟩ ?_
  clear hq hw
  rintro i w9 ⟨hi, hq, hw⟩
  have zw9 := hw.size
  obtain ⟨ok, hok⟩ : ∃ ok, ok = okT (outAt j) (UInt64.ofNat (2 + j)) i := ⟨_, rfl⟩
  rw [← hok]
  rcases ok with _ | _
  ·refine WC.seq (WC.sr (WL.move rfl rfl (WL.move rfl rfl (WL.len Tryz.underlying162 rfl rfl (WL.qi rfl rfl rfl (fun h16 => ?_) (fun h16 => ?_))))))
   ·refine WL.t (WC.qb rfl (WC.skip (WX.qa (WC.seq (WC.block (WC.region (WL.move rfl rfl (WL.move rfl rfl (WL.pass rfl rfl rfl rfl (WL.pass rfl rfl rfl rfl (WL.pass rfl rfl rfl rfl (WL.pass rfl rfl rfl rfl (WL.pass rfl rfl rfl rfl (WL.pass rfl rfl rfl rfl (WL.pass rfl rfl rfl rfl (WL.qb rfl rfl rfl (WL.assign rfl rfl (WL.nil (WX.qd (WX.qa (WC.region (WL.move rfl rfl (WL.qe rfl rfl (by omega) rfl (WL.assign rfl rfl (WL.nil (?_))))))))))))))))))))))))))
    first
     |(refine WX.qc (i + 1) ⟨rfl, rfl, rfl, ?_, rfl, trivial⟩ ⟨by omega, hq, hw⟩ (by show _ - _ < _ - _; omega)
       first
        |(rw [okT_next hx, ← hok, Bool.true_and, show decide (((UInt64.ofNat (2 + j) % x).toNat : Int) ≠ 0) = true from decide_eq_true h27]; done)
        |(rw [okT_next hx, ← hok, Bool.true_and, show decide (((UInt64.ofNat (2 + j) % x).toNat : Int) ≠ 0) = true from decide_eq_true h27]; rfl)
        |(rw [okT_next hx, ← hok, Bool.true_and, show decide (((UInt64.ofNat (2 + j) % x).toNat : Int) ≠ 0) = false from decide_eq_false (fun h => h h27)]; done)
        |(rw [okT_next hx, ← hok, Bool.true_and, show decide (((UInt64.ofNat (2 + j) % x).toNat : Int) ≠ 0) = false from decide_eq_false (fun h => h h27)]; rfl))
     |(refine WX.qc (i + 1) ⟨rfl, rfl, rfl, ?_, rfl, trivial⟩ ⟨by omega, hq, hw⟩ (by show _ - _ < _ - _; omega)
       rw [okT_next (List.getElem?_eq_getElem (show i < (outAt j).length by omega)), ← hok, Bool.false_and]
       try rfl)
     |(have e1 : outAt (j + 1) = outAt j ++ [UInt64.ofNat (2 + j)] := by
        rw [outAt, stepP, if_pos]
        rw [show (outAt j).length = i from by omega, ← hok]
       refine WX.qc (j + 1, a_hq2, c_hq2) ⟨rfl, ?_, ?_, trivial⟩ ⟨by dsimp only; omega, ?_, hw⟩ (by show _ - _ < _ - _; omega)
       ·dsimp only; rw [e1]; rfl
       ·dsimp only; rw [← nextP hj]; rfl
       ·dsimp only; rw [e1]; exact hq2)
     |(have e1 : outAt (j + 1) = outAt j := by
        rw [outAt, stepP, if_neg]
        rw [show (outAt j).length = i from by omega, ← hok]
        decide
       refine WX.qc (j + 1, ao, c) ⟨rfl, ?_, ?_, trivial⟩ ⟨by dsimp only; omega, ?_, hw⟩ (by show _ - _ < _ - _; omega)
       ·dsimp only; rw [e1]; rfl
       ·dsimp only; rw [← nextP hj]; rfl
       ·dsimp only; rw [e1]; exact hq)
   ·refine WL.t (WC.qa rfl (WC.exit (WX.qe (WX.qe (WX.qh (WX.qa (WC.sr (WL.move rfl rfl (WL.t (WC.qa rfl (WC.skip (WX.qd (WX.qa (WC.region (WL.move rfl rfl (WL.num rfl rfl (n_add64 _ _ _ 1) rfl (WL.assign rfl rfl (WL.nil (?_)))))))))))))))))))
    first
     |(refine WX.qc (i + 1) ⟨rfl, rfl, rfl, ?_, rfl, trivial⟩ ⟨by omega, hq, hw⟩ (by show _ - _ < _ - _; omega)
       first
        |(rw [okT_next hx, ← hok, Bool.true_and, show decide (((UInt64.ofNat (2 + j) % x).toNat : Int) ≠ 0) = true from decide_eq_true h27]; done)
        |(rw [okT_next hx, ← hok, Bool.true_and, show decide (((UInt64.ofNat (2 + j) % x).toNat : Int) ≠ 0) = true from decide_eq_true h27]; rfl)
        |(rw [okT_next hx, ← hok, Bool.true_and, show decide (((UInt64.ofNat (2 + j) % x).toNat : Int) ≠ 0) = false from decide_eq_false (fun h => h h27)]; done)
        |(rw [okT_next hx, ← hok, Bool.true_and, show decide (((UInt64.ofNat (2 + j) % x).toNat : Int) ≠ 0) = false from decide_eq_false (fun h => h h27)]; rfl))
     |(refine WX.qc (i + 1) ⟨rfl, rfl, rfl, ?_, rfl, trivial⟩ ⟨by omega, hq, hw⟩ (by show _ - _ < _ - _; omega)
       rw [okT_next (List.getElem?_eq_getElem (show i < (outAt j).length by omega)), ← hok, Bool.false_and]
       try rfl)
     |(have e1 : outAt (j + 1) = outAt j ++ [UInt64.ofNat (2 + j)] := by
        rw [outAt, stepP, if_pos]
        rw [show (outAt j).length = i from by omega, ← hok]
       refine WX.qc (j + 1, a_hq2, c_hq2) ⟨rfl, ?_, ?_, trivial⟩ ⟨by dsimp only; omega, ?_, hw⟩ (by show _ - _ < _ - _; omega)
       ·dsimp only; rw [e1]; rfl
       ·dsimp only; rw [← nextP hj]; rfl
       ·dsimp only; rw [e1]; exact hq2)
     |(have e1 : outAt (j + 1) = outAt j := by
        rw [outAt, stepP, if_neg]
        rw [show (outAt j).length = i from by omega, ← hok]
        decide
       refine WX.qc (j + 1, ao, c) ⟨rfl, ?_, ?_, trivial⟩ ⟨by dsimp only; omega, ?_, hw⟩ (by show _ - _ < _ - _; omega)
       ·dsimp only; rw [e1]; rfl
       ·dsimp only; rw [← nextP hj]; rfl
       ·dsimp only; rw [e1]; exact hq)
  ·refine WC.seq (WC.sr (WL.move rfl rfl (WL.move rfl rfl (WL.len Tryz.underlying162 rfl rfl (WL.qi rfl rfl rfl (fun h16 => ?_) (fun h16 => ?_))))))
   ·refine WL.t (WC.qb rfl (WC.skip (WX.qa (WC.seq (WC.block (WC.region (WL.move rfl rfl (WL.move rfl rfl (WL.qa rfl rfl rfl (WL.move rfl rfl (WL.qa rfl rfl rfl (WL.move rfl rfl (WL.qa rfl rfl rfl (WL.move rfl rfl (WL.qa rfl rfl rfl (?_))))))))))))))))
    obtain ⟨x, hx⟩ : ∃ x, (outAt j)[i]? = some x := ⟨_, List.getElem?_eq_getElem (by omega)⟩
    have hne := hpos x (List.mem_of_getElem? hx)
    refine WL.qg Tryz.underlying162 Tryz.sizeOf24 hq.rsl rfl rfl ⟨hx, rfl⟩ rfl ?_
    intro b_1 o_1 hc_1
    refine WL.qa rfl rfl rfl (WL.load Tryz.isAgg24 rfl (hc_1 0 _ rfl) rfl (WL.qa rfl rfl rfl (WL.num rfl rfl (n_rem64 _ _ _ _ hne) rfl ?_)))
    refine WL.qa rfl rfl rfl (WL.qk rfl rfl rfl (fun h27 => ?_) (fun h27 => ?_))
    ·refine WL.qc rfl rfl rfl (WL.assign rfl rfl (WL.nil (WX.qd (WX.qa (WC.region (WL.move rfl rfl (WL.qe rfl rfl (by omega) rfl (?_))))))))
     refine WL.assign rfl rfl (WL.nil (?_))
     first
      |(refine WX.qc (i + 1) ⟨rfl, rfl, rfl, ?_, rfl, trivial⟩ ⟨by omega, hq, hw⟩ (by show _ - _ < _ - _; omega)
        first
         |(rw [okT_next hx, ← hok, Bool.true_and, show decide (((UInt64.ofNat (2 + j) % x).toNat : Int) ≠ 0) = true from decide_eq_true h27]; done)
         |(rw [okT_next hx, ← hok, Bool.true_and, show decide (((UInt64.ofNat (2 + j) % x).toNat : Int) ≠ 0) = true from decide_eq_true h27]; rfl)
         |(rw [okT_next hx, ← hok, Bool.true_and, show decide (((UInt64.ofNat (2 + j) % x).toNat : Int) ≠ 0) = false from decide_eq_false (fun h => h h27)]; done)
         |(rw [okT_next hx, ← hok, Bool.true_and, show decide (((UInt64.ofNat (2 + j) % x).toNat : Int) ≠ 0) = false from decide_eq_false (fun h => h h27)]; rfl))
      |(refine WX.qc (i + 1) ⟨rfl, rfl, rfl, ?_, rfl, trivial⟩ ⟨by omega, hq, hw⟩ (by show _ - _ < _ - _; omega)
        rw [okT_next (List.getElem?_eq_getElem (show i < (outAt j).length by omega)), ← hok, Bool.false_and]
        try rfl)
      |(have e1 : outAt (j + 1) = outAt j ++ [UInt64.ofNat (2 + j)] := by
         rw [outAt, stepP, if_pos]
         rw [show (outAt j).length = i from by omega, ← hok]
        refine WX.qc (j + 1, a_hq2, c_hq2) ⟨rfl, ?_, ?_, trivial⟩ ⟨by dsimp only; omega, ?_, hw⟩ (by show _ - _ < _ - _; omega)
        ·dsimp only; rw [e1]; rfl
        ·dsimp only; rw [← nextP hj]; rfl
        ·dsimp only; rw [e1]; exact hq2)
      |(have e1 : outAt (j + 1) = outAt j := by
         rw [outAt, stepP, if_neg]
         rw [show (outAt j).length = i from by omega, ← hok]
         decide
        refine WX.qc (j + 1, ao, c) ⟨rfl, ?_, ?_, trivial⟩ ⟨by dsimp only; omega, ?_, hw⟩ (by show _ - _ < _ - _; omega)
        ·dsimp only; rw [e1]; rfl
        ·dsimp only; rw [← nextP hj]; rfl
        ·dsimp only; rw [e1]; exact hq)
    ·refine WL.qc rfl rfl rfl (WL.assign rfl rfl (WL.nil (WX.qd (WX.qa (WC.region (WL.move rfl rfl (WL.qe rfl rfl (by omega) rfl (?_))))))))
     refine WL.assign rfl rfl (WL.nil (?_))
     first
      |(refine WX.qc (i + 1) ⟨rfl, rfl, rfl, ?_, rfl, trivial⟩ ⟨by omega, hq, hw⟩ (by show _ - _ < _ - _; omega)
        first
         |(rw [okT_next hx, ← hok, Bool.true_and, show decide (((UInt64.ofNat (2 + j) % x).toNat : Int) ≠ 0) = true from decide_eq_true h27]; done)
         |(rw [okT_next hx, ← hok, Bool.true_and, show decide (((UInt64.ofNat (2 + j) % x).toNat : Int) ≠ 0) = true from decide_eq_true h27]; rfl)
         |(rw [okT_next hx, ← hok, Bool.true_and, show decide (((UInt64.ofNat (2 + j) % x).toNat : Int) ≠ 0) = false from decide_eq_false (fun h => h h27)]; done)
         |(rw [okT_next hx, ← hok, Bool.true_and, show decide (((UInt64.ofNat (2 + j) % x).toNat : Int) ≠ 0) = false from decide_eq_false (fun h => h h27)]; rfl))
      |(refine WX.qc (i + 1) ⟨rfl, rfl, rfl, ?_, rfl, trivial⟩ ⟨by omega, hq, hw⟩ (by show _ - _ < _ - _; omega)
        rw [okT_next (List.getElem?_eq_getElem (show i < (outAt j).length by omega)), ← hok, Bool.false_and]
        try rfl)
      |(have e1 : outAt (j + 1) = outAt j ++ [UInt64.ofNat (2 + j)] := by
         rw [outAt, stepP, if_pos]
         rw [show (outAt j).length = i from by omega, ← hok]
        refine WX.qc (j + 1, a_hq2, c_hq2) ⟨rfl, ?_, ?_, trivial⟩ ⟨by dsimp only; omega, ?_, hw⟩ (by show _ - _ < _ - _; omega)
        ·dsimp only; rw [e1]; rfl
        ·dsimp only; rw [← nextP hj]; rfl
        ·dsimp only; rw [e1]; exact hq2)
      |(have e1 : outAt (j + 1) = outAt j := by
         rw [outAt, stepP, if_neg]
         rw [show (outAt j).length = i from by omega, ← hok]
         decide
        refine WX.qc (j + 1, ao, c) ⟨rfl, ?_, ?_, trivial⟩ ⟨by dsimp only; omega, ?_, hw⟩ (by show _ - _ < _ - _; omega)
        ·dsimp only; rw [e1]; rfl
        ·dsimp only; rw [← nextP hj]; rfl
        ·dsimp only; rw [e1]; exact hq)
   ·refine WL.t (WC.qa rfl (WC.exit (WX.qe (WX.qe (WX.qh (WX.qa (WC.sr (WL.move rfl rfl (WL.t (WC.qb rfl (WC.region (WL.move rfl rfl (WL.move rfl rfl (?_))))))))))))))
    refine WL.build (e := e64) [UInt64.ofNat (2 + j)] Tryz.underlying162 Tryz.sizeOf24 Tryz.zeroValue24 rfl rfl rfl (by simp [Value.cells] <;> rfl) (by decide) rfl ?_
    intro a_hn w_hn hn l_hn z_hn k_hn
    replace hq := hq.pure k_hn
    replace hw := hw.pure k_hn
    refine WL.append (e := e64) info_24 rfl Tryz.underlying162 rfl rfl hq (hn.rsl.src Tryz.underlying162) (by (try simp only [List.length_append, List.length_cons, List.length_nil] at *); omega) (by intro b hb; first | (apply hS; omega) | ((try dsimp only); omega)) rfl ?_
    intro a_hq2 c_hq2 w_hq2 hq2 g_hq2 n_hq2
    replace hw := hw.chg g_hq2.chg (by intros; exfalso; (try dsimp only at *); omega)
    refine WL.assign rfl rfl (WL.nil (WX.qd (WX.qa (WC.region (WL.move rfl rfl (WL.num rfl rfl (n_add64 _ _ _ 1) rfl (WL.assign rfl rfl (WL.nil (?_)))))))))
    first
     |(refine WX.qc (i + 1) ⟨rfl, rfl, rfl, ?_, rfl, trivial⟩ ⟨by omega, hq, hw⟩ (by show _ - _ < _ - _; omega)
       first
        |(rw [okT_next hx, ← hok, Bool.true_and, show decide (((UInt64.ofNat (2 + j) % x).toNat : Int) ≠ 0) = true from decide_eq_true h27]; done)
        |(rw [okT_next hx, ← hok, Bool.true_and, show decide (((UInt64.ofNat (2 + j) % x).toNat : Int) ≠ 0) = true from decide_eq_true h27]; rfl)
        |(rw [okT_next hx, ← hok, Bool.true_and, show decide (((UInt64.ofNat (2 + j) % x).toNat : Int) ≠ 0) = false from decide_eq_false (fun h => h h27)]; done)
        |(rw [okT_next hx, ← hok, Bool.true_and, show decide (((UInt64.ofNat (2 + j) % x).toNat : Int) ≠ 0) = false from decide_eq_false (fun h => h h27)]; rfl))
     |(refine WX.qc (i + 1) ⟨rfl, rfl, rfl, ?_, rfl, trivial⟩ ⟨by omega, hq, hw⟩ (by show _ - _ < _ - _; omega)
       rw [okT_next (List.getElem?_eq_getElem (show i < (outAt j).length by omega)), ← hok, Bool.false_and]
       try rfl)
     |(have e1 : outAt (j + 1) = outAt j ++ [UInt64.ofNat (2 + j)] := by
        rw [outAt, stepP, if_pos]
        rw [show (outAt j).length = i from by omega, ← hok]
       refine WX.qc (j + 1, a_hq2, c_hq2) ⟨rfl, ?_, ?_, trivial⟩ ⟨by dsimp only; omega, ?_, hw⟩ (by show _ - _ < _ - _; omega)
       ·dsimp only; rw [e1]; rfl
       ·dsimp only; rw [← nextP hj]; rfl
       ·dsimp only; rw [e1]; exact hq2)
     |(have e1 : outAt (j + 1) = outAt j := by
        rw [outAt, stepP, if_neg]
        rw [show (outAt j).length = i from by omega, ← hok]
        decide
       refine WX.qc (j + 1, ao, c) ⟨rfl, ?_, ?_, trivial⟩ ⟨by dsimp only; omega, ?_, hw⟩ (by show _ - _ < _ - _; omega)
       ·dsimp only; rw [e1]; rfl
       ·dsimp only; rw [← nextP hj]; rfl
       ·dsimp only; rw [e1]; exact hq)
 ·refine WL.t (WC.qa rfl (WC.exit (WX.qe (WX.qe (WX.qh (WX.qa (WC.sr (WL.move rfl rfl (WL.assign rfl rfl (WL.t (WC.ret (WX.qg (.inl rfl) Tryz.results100 rfl ?_))))))))))))
  have e1 := outAt_end hj (by omega)
  rw [e1] at hq ⊢
  exact ⟨_, rfl, ⟨_, _, rfl, hq⟩, hw⟩
end Go.Proofs.YtjeldcjchipdgaaGreatDoor
namespace Go.Proofs.YtjeldcjchipdgaaGreatDoor
open Go.RowKit Go.HL
set_option maxRecDepth 100000
def mulT (x y : UInt64) : UInt64 := (x >>> UInt64.ofNat 32) * (y &&& 4294967295) + ((x &&& 4294967295) * (y &&& 4294967295)) >>> UInt64.ofNat 32
def mulHi (x y : UInt64) : UInt64 := ((x >>> UInt64.ofNat 32) * (y >>> UInt64.ofNat 32) + (mulT x y) >>> UInt64.ofNat 32) + (((mulT x y) &&& 4294967295) + (x &&& 4294967295) * (y >>> UInt64.ofNat 32)) >>> UInt64.ofNat 32
theorem mul64_calls (x y : UInt64) (w : World) : Calls Tryz.prog 127 [v64 x, v64 y].toArray w (Ret fun v w' => v = .tuple #[v64 (mulHi x y), v64 (x * y)] ∧ Chg Nob w w') := by
 have hw := Chg.refl Nob w
 refine Calls.of_WC Tryz.func127 rfl Tryz.ntmps127 (by simp) ?_
 refine WC.sr (WL.assign rfl rfl (WL.assign rfl rfl (WL.t (WC.sr (WL.move rfl rfl (WL.num rfl rfl (n_and64 _ _ _ 4294967295) rfl (WL.assign rfl rfl (WL.t (WC.sr (WL.move rfl rfl (WL.num rfl rfl (n_shr64 _ _ _ _ 32 (by decide)) rfl (WL.assign rfl rfl (WL.t (WC.sr (WL.move rfl rfl (WL.num rfl rfl (n_and64 _ _ _ 4294967295) rfl (?_)))))))))))))))))
 refine WL.assign rfl rfl (WL.t (WC.sr (WL.move rfl rfl (WL.num rfl rfl (n_shr64 _ _ _ _ 32 (by decide)) rfl (WL.assign rfl rfl (?_))))))
 refine WL.t (WC.sr (WL.move rfl rfl (WL.move rfl rfl (WL.num rfl rfl (n_mul64 _ _ _ _) rfl (WL.assign rfl rfl (WL.t (WC.sr (WL.move rfl rfl (WL.move rfl rfl (WL.num rfl rfl (n_mul64 _ _ _ _) rfl (WL.move rfl rfl (WL.num rfl rfl (n_shr64 _ _ _ _ 32 (by decide)) rfl (WL.num rfl rfl (n_add64 _ _ _ _) rfl (WL.assign rfl rfl (WL.t (WC.sr (WL.move rfl rfl (?_))))))))))))))))))
 refine WL.num rfl rfl (n_and64 _ _ _ 4294967295) rfl (WL.assign rfl rfl (WL.t (WC.sr (WL.move rfl rfl (WL.num rfl rfl (n_shr64 _ _ _ _ 32 (by decide)) rfl (?_))))))
 refine WL.assign rfl rfl (WL.t (WC.sr (WL.move rfl rfl (WL.move rfl rfl (WL.move rfl rfl (WL.num rfl rfl (n_mul64 _ _ _ _) rfl (WL.num rfl rfl (n_add64 _ _ _ _) rfl (WL.assign rfl rfl (WL.t (WC.sr (WL.move rfl rfl (WL.move rfl rfl (WL.num rfl rfl (n_mul64 _ _ _ _) rfl (WL.move rfl rfl (WL.num rfl rfl (n_add64 _ _ _ _) rfl (WL.move rfl rfl (WL.num rfl rfl (n_shr64 _ _ _ _ 32 (by decide)) rfl (WL.num rfl rfl (n_add64 _ _ _ _) rfl (WL.assign rfl rfl (?_))))))))))))))))))))
 refine WL.t (WC.sr (WL.move rfl rfl (WL.move rfl rfl (WL.num rfl rfl (n_mul64 _ _ _ _) rfl (WL.assign rfl rfl (WL.t (WC.ret (WX.qi (.inl rfl) Tryz.results127 rfl rfl ?_))))))))
 exact ⟨_, rfl, rfl, hw⟩
def squareF (x p : UInt64) : Bool := decide ((mulHi x x).toNat < p.toNat) || (decide ((mulHi x x).toNat = p.toNat) && decide ((x * x).toNat = 0))
theorem square_calls (x p : UInt64) (w : World) : Calls Tryz.prog 115 [v64 x, v64 p].toArray w (Ret fun v w' => v = .bool (squareF x p) ∧ Chg Nob w w') := by
 have hw := Chg.refl Nob w
 refine Calls.of_WC Tryz.func115 rfl Tryz.ntmps115 (by simp) ?_
 refine WC.sr (WL.assign rfl rfl (WL.t (WC.sr (WL.move rfl rfl (WL.move rfl rfl (WL.call eg_127 rfl rfl (mul64_calls x x _) ?_))))))
 rintro v w1 ⟨rfl, k⟩
 replace hw := hw.pure k
 refine WL.move rfl rfl (WL.extract rfl rfl rfl (WL.extract rfl rfl rfl (WL.assign rfl rfl (WL.assign rfl rfl (WL.t (WC.seq (WC.region (WL.move rfl rfl (WL.move rfl rfl (WL.qi rfl rfl rfl (fun h15 => ?_) (fun h15 => ?_)))))))))))
 ·refine WL.move rfl rfl (WL.pass rfl rfl rfl rfl (WL.pass rfl rfl rfl rfl (WL.pass rfl rfl rfl rfl (WL.pass rfl rfl rfl rfl (WL.ql rfl rfl rfl (WL.ql rfl rfl rfl (WL.pass rfl rfl rfl rfl (WL.qc rfl rfl rfl (WL.assign rfl rfl (WL.t (WC.ret (WX.qg (.inl rfl) Tryz.results115 rfl ?_))))))))))))
  refine ⟨_, rfl, congrArg Value.bool ?_, hw⟩
  rw [squareF]
  first
   |(rw [show decide ((mulHi x x).toNat < p.toNat) = true from decide_eq_true (by omega)]; rfl)
   |(rw [show decide ((mulHi x x).toNat < p.toNat) = false from decide_eq_false (by omega), show decide ((mulHi x x).toNat = p.toNat) = true from decide_eq_true (by omega), Bool.false_or, Bool.true_and]; exact decide_eq_decide.2 (by omega))
   |(rw [show decide ((mulHi x x).toNat < p.toNat) = false from decide_eq_false (by omega), show decide ((mulHi x x).toNat = p.toNat) = false from decide_eq_false (by omega)]; rfl)
 ·refine WL.move rfl rfl (WL.qa rfl rfl rfl (WL.move rfl rfl (WL.qa rfl rfl rfl (WL.move rfl rfl (WL.qa rfl rfl rfl (WL.qj rfl rfl rfl (fun h19 => ?_) (fun h19 => ?_)))))))
  ·refine WL.qa rfl rfl rfl (WL.move rfl rfl (WL.qa rfl rfl rfl (WL.move rfl rfl (WL.qa rfl rfl rfl (WL.eql rfl rfl rfl (WL.qa rfl rfl rfl (WL.qc rfl rfl rfl (WL.qb rfl rfl rfl (WL.assign rfl rfl (WL.t (WC.ret (WX.qg (.inl rfl) Tryz.results115 rfl ?_))))))))))))
   refine ⟨_, rfl, congrArg Value.bool ?_, hw⟩
   rw [squareF]
   first
    |(rw [show decide ((mulHi x x).toNat < p.toNat) = true from decide_eq_true (by omega)]; rfl)
    |(rw [show decide ((mulHi x x).toNat < p.toNat) = false from decide_eq_false (by omega), show decide ((mulHi x x).toNat = p.toNat) = true from decide_eq_true (by omega), Bool.false_or, Bool.true_and]; exact decide_eq_decide.2 (by omega))
    |(rw [show decide ((mulHi x x).toNat < p.toNat) = false from decide_eq_false (by omega), show decide ((mulHi x x).toNat = p.toNat) = false from decide_eq_false (by omega)]; rfl)
  ·refine WL.qa rfl rfl rfl (WL.move rfl rfl (WL.pass rfl rfl rfl rfl (WL.pass rfl rfl rfl rfl (WL.qa rfl rfl rfl (WL.qb rfl rfl rfl (WL.qb rfl rfl rfl (WL.assign rfl rfl (WL.t (WC.ret (WX.qg (.inl rfl) Tryz.results115 rfl ?_))))))))))
   refine ⟨_, rfl, congrArg Value.bool ?_, hw⟩
   rw [squareF]
   first
    |(rw [show decide ((mulHi x x).toNat < p.toNat) = true from decide_eq_true (by omega)]; rfl)
    |(rw [show decide ((mulHi x x).toNat < p.toNat) = false from decide_eq_false (by omega), show decide ((mulHi x x).toNat = p.toNat) = true from decide_eq_true (by omega), Bool.false_or, Bool.true_and]; exact decide_eq_decide.2 (by omega))
    |(rw [show decide ((mulHi x x).toNat < p.toNat) = false from decide_eq_false (by omega), show decide ((mulHi x x).toNat = p.toNat) = false from decide_eq_false (by omega)]; rfl)
def cubeTop (x : UInt64) : UInt64 := mulHi x x * x + mulHi (x * x) x
def cubeF (x p : UInt64) : Bool := decide ((cubeTop x).toNat < (p <<< UInt64.ofNat 32).toNat) || (decide ((cubeTop x).toNat = (p <<< UInt64.ofNat 32).toNat) && decide ((x * x * x).toNat = 0))
theorem cube_calls (x p : UInt64) (w : World) : Calls Tryz.prog 114 [v64 x, v64 p].toArray w (Ret fun v w' => v = .bool (cubeF x p) ∧ Chg Nob w w') := by
 have hw := Chg.refl Nob w
 refine Calls.of_WC Tryz.func114 rfl Tryz.ntmps114 (by simp) ?_
 refine WC.sr (WL.assign rfl rfl (WL.t (WC.sr (WL.move rfl rfl (WL.move rfl rfl (WL.call eg_127 rfl rfl (mul64_calls x x _) ?_))))))
 rintro v w1 ⟨rfl, k⟩
 replace hw := hw.pure k
 refine WL.move rfl rfl (WL.extract rfl rfl rfl (WL.extract rfl rfl rfl (WL.assign rfl rfl (WL.assign rfl rfl (WL.t (WC.seq (WC.region (WL.move rfl rfl (WL.move rfl rfl (WL.call eg_127 rfl rfl (mul64_calls (x * x) x _) ?_))))))))))
 rintro v w1 ⟨rfl, k⟩
 replace hw := hw.pure k
 refine WL.move rfl rfl (WL.extract rfl rfl rfl (WL.extract rfl rfl rfl (WL.assign rfl rfl (WL.assign rfl rfl (WL.t (WC.seq (WC.region (WL.move rfl rfl (WL.move rfl rfl (WL.num rfl rfl (n_mul64 _ _ _ _) rfl (WL.move rfl rfl (WL.num rfl rfl (n_add64 _ _ _ _) rfl ?_))))))))))))
 rw [show mulHi x x * x + mulHi (x * x) x = cubeTop x from rfl]
 refine WL.assign rfl rfl (WL.t (WC.sr (WL.move rfl rfl (WL.move rfl rfl (WL.num rfl rfl (n_shl64 _ _ _ _ 32 (by decide)) rfl (?_))))))
 refine WL.qi rfl rfl rfl (fun h30 => ?_) (fun h30 => ?_)
 ·refine WL.move rfl rfl (WL.pass rfl rfl rfl rfl (WL.pass rfl rfl rfl rfl (WL.pass rfl rfl rfl rfl (WL.pass rfl rfl rfl rfl (WL.pass rfl rfl rfl rfl (WL.ql rfl rfl rfl (WL.ql rfl rfl rfl (WL.pass rfl rfl rfl rfl (WL.qc rfl rfl rfl (WL.assign rfl rfl (WL.t (WC.ret (WX.qg (.inl rfl) Tryz.results114 rfl ?_)))))))))))))
  refine ⟨_, rfl, congrArg Value.bool ?_, hw⟩
  rw [cubeF]
  first
   |(rw [show decide ((cubeTop x).toNat < (p <<< UInt64.ofNat 32).toNat) = true from decide_eq_true (by omega)]; rfl)
   |(rw [show decide ((cubeTop x).toNat < (p <<< UInt64.ofNat 32).toNat) = false from decide_eq_false (by omega), show decide ((cubeTop x).toNat = (p <<< UInt64.ofNat 32).toNat) = true from decide_eq_true (by omega), Bool.false_or, Bool.true_and]; exact decide_eq_decide.2 (by omega))
   |(rw [show decide ((cubeTop x).toNat < (p <<< UInt64.ofNat 32).toNat) = false from decide_eq_false (by omega), show decide ((cubeTop x).toNat = (p <<< UInt64.ofNat 32).toNat) = false from decide_eq_false (by omega)]; rfl)
 ·refine WL.move rfl rfl (WL.qa rfl rfl rfl (WL.move rfl rfl (WL.qa rfl rfl rfl (WL.move rfl rfl (WL.qa rfl rfl rfl (WL.num rfl rfl (n_shl64 _ _ _ _ 32 (by decide)) rfl (WL.qa rfl rfl rfl (?_))))))))
  refine WL.qj rfl rfl rfl (fun h35 => ?_) (fun h35 => ?_)
  ·refine WL.qa rfl rfl rfl (WL.move rfl rfl (WL.qa rfl rfl rfl (WL.move rfl rfl (WL.qa rfl rfl rfl (WL.eql rfl rfl rfl (WL.qa rfl rfl rfl (WL.qc rfl rfl rfl (WL.qb rfl rfl rfl (WL.assign rfl rfl (WL.t (WC.ret (WX.qg (.inl rfl) Tryz.results114 rfl ?_))))))))))))
   refine ⟨_, rfl, congrArg Value.bool ?_, hw⟩
   rw [cubeF]
   first
    |(rw [show decide ((cubeTop x).toNat < (p <<< UInt64.ofNat 32).toNat) = true from decide_eq_true (by omega)]; rfl)
    |(rw [show decide ((cubeTop x).toNat < (p <<< UInt64.ofNat 32).toNat) = false from decide_eq_false (by omega), show decide ((cubeTop x).toNat = (p <<< UInt64.ofNat 32).toNat) = true from decide_eq_true (by omega), Bool.false_or, Bool.true_and]; exact decide_eq_decide.2 (by omega))
    |(rw [show decide ((cubeTop x).toNat < (p <<< UInt64.ofNat 32).toNat) = false from decide_eq_false (by omega), show decide ((cubeTop x).toNat = (p <<< UInt64.ofNat 32).toNat) = false from decide_eq_false (by omega)]; rfl)
  ·refine WL.qa rfl rfl rfl (WL.move rfl rfl (WL.pass rfl rfl rfl rfl (WL.pass rfl rfl rfl rfl (WL.qa rfl rfl rfl (WL.qb rfl rfl rfl (WL.qb rfl rfl rfl (WL.assign rfl rfl (WL.t (WC.ret (WX.qg (.inl rfl) Tryz.results114 rfl ?_))))))))))
   refine ⟨_, rfl, congrArg Value.bool ?_, hw⟩
   rw [cubeF]
   first
    |(rw [show decide ((cubeTop x).toNat < (p <<< UInt64.ofNat 32).toNat) = true from decide_eq_true (by omega)]; rfl)
    |(rw [show decide ((cubeTop x).toNat < (p <<< UInt64.ofNat 32).toNat) = false from decide_eq_false (by omega), show decide ((cubeTop x).toNat = (p <<< UInt64.ofNat 32).toNat) = true from decide_eq_true (by omega), Bool.false_or, Bool.true_and]; exact decide_eq_decide.2 (by omega))
    |(rw [show decide ((cubeTop x).toNat < (p <<< UInt64.ofNat 32).toNat) = false from decide_eq_false (by omega), show decide ((cubeTop x).toNat = (p <<< UInt64.ofNat 32).toNat) = false from decide_eq_false (by omega)]; rfl)
def tryF (p y : UInt64) (third : Bool) (k : Nat) : Bool := if third then decide (k < 36) && cubeF y p else squareF y p
def rootStep (p : UInt64) (third : Bool) (x : UInt64) (k : Nat) : UInt64 := if tryF p (x + 1 <<< UInt64.ofNat k) third k then x + 1 <<< UInt64.ofNat k else x
def rootAt (p : UInt64) (third : Bool) : Nat → UInt64
 |0 => 0
 |i + 1 => rootStep p third (rootAt p third i) (37 - i)
def rootF (p : UInt64) (third : Bool) : UInt64 := rootAt p third 38 &&& 4294967295
set_option maxHeartbeats 1000000 in
theorem root_calls (p : UInt64) (third : Bool) (w : World) : Calls Tryz.prog 101 [v64 p, .bool third].toArray w (Ret fun v w' => v = v64 (rootF p third) ∧ Chg Nob w w') := by
 have hw := Chg.refl Nob w
 refine Calls.of_WC Tryz.func101 rfl Tryz.ntmps101 (by simp) ?_
 refine WC.sr (WL.assign rfl rfl (WL.t (WC.sr (WL.assign rfl rfl (WL.t (WC.seq (WC.sr (WL.assign rfl rfl (WL.t (WC.block (?_)))))))))))
 refine WC.loop (σ := Nat) (fun i => [(0, v64 p), (1, .bool third), (5, v64 (rootAt p third i)), (6, vi (37 - (i : Int)))])
  (fun i w' => i ≤ 38 ∧ Chg Nob w w') (fun i => 38 - i) 0 ⟨rfl, rfl, rfl, rfl, trivial⟩ ⟨Nat.zero_le _, hw⟩ ?_
 clear hw
 rintro i w9 ⟨hi, hw⟩
 rcases third with _ | _
 ·refine WC.seq (WC.sr (WL.move rfl rfl (WL.qx rfl rfl rfl (fun h9 => ?_) (fun h9 => ?_))))
  ·refine WL.t (WC.qb rfl (WC.skip (WX.qa (WC.seq (WC.block (WC.seq (WC.region (WL.move rfl rfl (WL.move rfl rfl (WL.shlv (a := 1) (37 - i) rfl rfl ⟨by omega, by omega⟩ rfl ?_))))))))))
   refine WL.num rfl rfl (n_add64 _ _ _ _) rfl (WL.assign rfl rfl (WL.t (WC.sr (WL.move rfl rfl (WL.move rfl rfl (WL.pass rfl rfl rfl rfl (WL.pass rfl rfl rfl rfl (WL.qb rfl rfl rfl (WL.move rfl rfl (WL.pass rfl rfl rfl rfl (WL.pass rfl rfl rfl rfl (WL.pass rfl rfl rfl rfl (WL.qb rfl rfl rfl (WL.move rfl rfl (WL.qa rfl rfl rfl (WL.move rfl rfl (WL.qa rfl rfl rfl (WL.not rfl rfl (WL.qa rfl rfl rfl (WL.move rfl rfl (WL.qa rfl rfl rfl (WL.move rfl rfl (WL.qa rfl rfl rfl (WL.move rfl rfl (WL.qa rfl rfl rfl (WL.call eg_115 rfl rfl (square_calls _ _ _) ?_))))))))))))))))))))))))))
   rintro v w1 ⟨rfl, k⟩
   replace hw := hw.pure k
   obtain ⟨cb, hcb⟩ : ∃ cb, cb = squareF (rootAt p false i + 1 <<< UInt64.ofNat (37 - i)) p := ⟨_, rfl⟩
   rw [← hcb]
   rcases cb with _ | _
   ·refine WL.qa rfl rfl rfl (WL.qc rfl rfl rfl (WL.qb rfl rfl rfl (WL.t (WC.qa rfl (WC.skip (WX.qd (WX.qa (WC.region (WL.move rfl rfl (WL.qn rfl rfl (by omega) rfl (WL.assign rfl rfl (WL.nil (?_)))))))))))))
    have e37 : 37 - ((i + 1 : Nat) : Int) = 37 - (i : Int) - 1 := by omega
    refine WX.qc (i + 1) ⟨rfl, rfl, ?_, by rw [e37]; rfl, trivial⟩ ⟨by omega, hw⟩ (by show _ - _ < _ - _; omega)
    rw [rootAt, rootStep]
    first
     |(rw [if_pos (by rw [tryF, if_neg (by decide), ← hcb])]; rfl)
     |(rw [if_neg (by rw [tryF, if_neg (by decide), ← hcb]; decide)]; rfl)
     |(rw [if_pos (by rw [tryF, if_pos rfl, ← hcb, show decide (37 - i < 36) = true from decide_eq_true (by omega)]; rfl)]; rfl)
     |(rw [if_neg (by rw [tryF, if_pos rfl, ← hcb, Bool.and_false]; decide)]; rfl)
     |(rw [if_neg (by rw [tryF, if_pos rfl, show decide (37 - i < 36) = false from decide_eq_false (by omega), Bool.false_and]; decide)]; rfl)
   ·refine WL.qa rfl rfl rfl (WL.qc rfl rfl rfl (WL.qb rfl rfl rfl (WL.t (WC.qb rfl (WC.region (WL.move rfl rfl (WL.assign rfl rfl (WL.nil (WX.qd (WX.qa (WC.region (WL.move rfl rfl (WL.qn rfl rfl (by omega) rfl (WL.assign rfl rfl (?_)))))))))))))))
    refine WL.nil (?_)
    have e37 : 37 - ((i + 1 : Nat) : Int) = 37 - (i : Int) - 1 := by omega
    refine WX.qc (i + 1) ⟨rfl, rfl, ?_, by rw [e37]; rfl, trivial⟩ ⟨by omega, hw⟩ (by show _ - _ < _ - _; omega)
    rw [rootAt, rootStep]
    first
     |(rw [if_pos (by rw [tryF, if_neg (by decide), ← hcb])]; rfl)
     |(rw [if_neg (by rw [tryF, if_neg (by decide), ← hcb]; decide)]; rfl)
     |(rw [if_pos (by rw [tryF, if_pos rfl, ← hcb, show decide (37 - i < 36) = true from decide_eq_true (by omega)]; rfl)]; rfl)
     |(rw [if_neg (by rw [tryF, if_pos rfl, ← hcb, Bool.and_false]; decide)]; rfl)
     |(rw [if_neg (by rw [tryF, if_pos rfl, show decide (37 - i < 36) = false from decide_eq_false (by omega), Bool.false_and]; decide)]; rfl)
  ·refine WL.t (WC.qa rfl (WC.exit (WX.qe (WX.qe (WX.qh (WX.qa (WC.sr (WL.move rfl rfl (WL.num rfl rfl (n_and64 _ _ _ 4294967295) rfl (WL.assign rfl rfl (WL.t (WC.ret (WX.qg (.inl rfl) Tryz.results101 rfl ?_)))))))))))))
   have h38 : i = 38 := by omega
   rw [h38]
   exact ⟨_, rfl, rfl, hw⟩
 ·refine WC.seq (WC.sr (WL.move rfl rfl (WL.qx rfl rfl rfl (fun h9 => ?_) (fun h9 => ?_))))
  ·refine WL.t (WC.qb rfl (WC.skip (WX.qa (WC.seq (WC.block (WC.seq (WC.region (WL.move rfl rfl (WL.move rfl rfl (WL.shlv (a := 1) (37 - i) rfl rfl ⟨by omega, by omega⟩ rfl ?_))))))))))
   refine WL.num rfl rfl (n_add64 _ _ _ _) rfl (WL.assign rfl rfl (WL.t (WC.sr (WL.move rfl rfl (WL.move rfl rfl (WL.qa rfl rfl rfl (WL.move rfl rfl (WL.qa rfl rfl rfl (WL.qi rfl rfl rfl (fun h19 => ?_) (fun h19 => ?_))))))))))
   ·refine WL.qc rfl rfl rfl (WL.move rfl rfl (WL.qa rfl rfl rfl (WL.move rfl rfl (WL.qa rfl rfl rfl (WL.move rfl rfl (WL.qa rfl rfl rfl (WL.call eg_114 rfl rfl (cube_calls _ _ _) ?_)))))))
    rintro v w1 ⟨rfl, k⟩
    replace hw := hw.pure k
    obtain ⟨cb, hcb⟩ : ∃ cb, cb = cubeF (rootAt p true i + 1 <<< UInt64.ofNat (37 - i)) p := ⟨_, rfl⟩
    rw [← hcb]
    rcases cb with _ | _
    ·refine WL.qc rfl rfl rfl (WL.move rfl rfl (WL.qa rfl rfl rfl (WL.move rfl rfl (WL.qa rfl rfl rfl (WL.not rfl rfl (WL.qa rfl rfl rfl (WL.move rfl rfl (WL.pass rfl rfl rfl rfl (WL.pass rfl rfl rfl rfl (WL.pass rfl rfl rfl rfl (WL.qa rfl rfl rfl (WL.qb rfl rfl rfl (WL.qb rfl rfl rfl (WL.t (WC.qa rfl (WC.skip (WX.qd (WX.qa (WC.region (WL.move rfl rfl (WL.qn rfl rfl (by omega) rfl (WL.assign rfl rfl (?_)))))))))))))))))))))))
     refine WL.nil (?_)
     have e37 : 37 - ((i + 1 : Nat) : Int) = 37 - (i : Int) - 1 := by omega
     refine WX.qc (i + 1) ⟨rfl, rfl, ?_, by rw [e37]; rfl, trivial⟩ ⟨by omega, hw⟩ (by show _ - _ < _ - _; omega)
     rw [rootAt, rootStep]
     first
      |(rw [if_pos (by rw [tryF, if_neg (by decide), ← hcb])]; rfl)
      |(rw [if_neg (by rw [tryF, if_neg (by decide), ← hcb]; decide)]; rfl)
      |(rw [if_pos (by rw [tryF, if_pos rfl, ← hcb, show decide (37 - i < 36) = true from decide_eq_true (by omega)]; rfl)]; rfl)
      |(rw [if_neg (by rw [tryF, if_pos rfl, ← hcb, Bool.and_false]; decide)]; rfl)
      |(rw [if_neg (by rw [tryF, if_pos rfl, show decide (37 - i < 36) = false from decide_eq_false (by omega), Bool.false_and]; decide)]; rfl)
    ·refine WL.qc rfl rfl rfl (WL.move rfl rfl (WL.pass rfl rfl rfl rfl (WL.pass rfl rfl rfl rfl (WL.pass rfl rfl rfl rfl (WL.ql rfl rfl rfl (WL.ql rfl rfl rfl (WL.ql rfl rfl rfl (WL.pass rfl rfl rfl rfl (WL.qc rfl rfl rfl (WL.t (WC.qb rfl (WC.region (WL.move rfl rfl (WL.assign rfl rfl (WL.nil (WX.qd (WX.qa (WC.region (WL.move rfl rfl (WL.qn rfl rfl (by omega) rfl (WL.assign rfl rfl (WL.nil (?_)))))))))))))))))))))))
     have e37 : 37 - ((i + 1 : Nat) : Int) = 37 - (i : Int) - 1 := by omega
     refine WX.qc (i + 1) ⟨rfl, rfl, ?_, by rw [e37]; rfl, trivial⟩ ⟨by omega, hw⟩ (by show _ - _ < _ - _; omega)
     rw [rootAt, rootStep]
     first
      |(rw [if_pos (by rw [tryF, if_neg (by decide), ← hcb])]; rfl)
      |(rw [if_neg (by rw [tryF, if_neg (by decide), ← hcb]; decide)]; rfl)
      |(rw [if_pos (by rw [tryF, if_pos rfl, ← hcb, show decide (37 - i < 36) = true from decide_eq_true (by omega)]; rfl)]; rfl)
      |(rw [if_neg (by rw [tryF, if_pos rfl, ← hcb, Bool.and_false]; decide)]; rfl)
      |(rw [if_neg (by rw [tryF, if_pos rfl, show decide (37 - i < 36) = false from decide_eq_false (by omega), Bool.false_and]; decide)]; rfl)
   ·refine WL.qc rfl rfl rfl (WL.move rfl rfl (WL.pass rfl rfl rfl rfl (WL.pass rfl rfl rfl rfl (WL.pass rfl rfl rfl rfl (WL.qb rfl rfl rfl (WL.move rfl rfl (WL.qa rfl rfl rfl (WL.move rfl rfl (WL.qa rfl rfl rfl (WL.not rfl rfl (WL.qa rfl rfl rfl (WL.move rfl rfl (WL.pass rfl rfl rfl rfl (WL.pass rfl rfl rfl rfl (WL.pass rfl rfl rfl rfl (WL.qa rfl rfl rfl (WL.qb rfl rfl rfl (WL.qb rfl rfl rfl (WL.t (WC.qa rfl (WC.skip (WX.qd (WX.qa (WC.region (WL.move rfl rfl (WL.qn rfl rfl (by omega) rfl (WL.assign rfl rfl (WL.nil (?_)))))))))))))))))))))))))))))
    have e37 : 37 - ((i + 1 : Nat) : Int) = 37 - (i : Int) - 1 := by omega
    refine WX.qc (i + 1) ⟨rfl, rfl, ?_, by rw [e37]; rfl, trivial⟩ ⟨by omega, hw⟩ (by show _ - _ < _ - _; omega)
    rw [rootAt, rootStep]
    first
     |(rw [if_pos (by rw [tryF, if_neg (by decide), ← hcb])]; rfl)
     |(rw [if_neg (by rw [tryF, if_neg (by decide), ← hcb]; decide)]; rfl)
     |(rw [if_pos (by rw [tryF, if_pos rfl, ← hcb, show decide (37 - i < 36) = true from decide_eq_true (by omega)]; rfl)]; rfl)
     |(rw [if_neg (by rw [tryF, if_pos rfl, ← hcb, Bool.and_false]; decide)]; rfl)
     |(rw [if_neg (by rw [tryF, if_pos rfl, show decide (37 - i < 36) = false from decide_eq_false (by omega), Bool.false_and]; decide)]; rfl)
  ·refine WL.t (WC.qa rfl (WC.exit (WX.qe (WX.qe (WX.qh (WX.qa (WC.sr (WL.move rfl rfl (WL.num rfl rfl (n_and64 _ _ _ 4294967295) rfl (WL.assign rfl rfl (WL.t (WC.ret (WX.qg (.inl rfl) Tryz.results101 rfl ?_)))))))))))))
   have h38 : i = 38 := by omega
   rw [h38]
   exact ⟨_, rfl, rfl, hw⟩
end Go.Proofs.YtjeldcjchipdgaaGreatDoor
namespace Go.Proofs.YtjeldcjchipdgaaGreatDoor
open Go.RowKit Go.HL
set_option maxRecDepth 100000
theorem roots_k : ∀ i : Fin 64, rootF (P64.getD i.1 0) true = (K256.getD i.1 0).toUInt64 := by decide +kernel
theorem roots_h : ∀ i : Fin 8, rootF (P64.getD i.1 0) false = (st0.list.getD i.1 0).toUInt64 := by decide +kernel
end Go.Proofs.YtjeldcjchipdgaaGreatDoor
namespace Go.Proofs.YtjeldcjchipdgaaGreatDoor
open Go.RowKit Go.HL
set_option maxRecDepth 100000
def UL (V : V8) : List UInt64 := V.list.map UInt32.toUInt64
def K64 : List UInt64 := K256.map UInt32.toUInt64
theorem down32 (a : UInt64) (x : UInt32) (h : a.toUInt32 = x) : a &&& 4294967295 = x.toUInt64 := by rw [m32, h]
theorem not_up (x : UInt32) : (x.toUInt64 ^^^ 4294967295).toUInt32 = ~~~x := by
 rw [UInt64.toUInt32_xor, up_down]
 apply UInt32.toBitVec_inj.1
 show x.toBitVec ^^^ BitVec.allOnes 32 = ~~~x.toBitVec
 rw [BitVec.xor_allOnes]
def S0r (x : UInt32) : UInt64 := ((rotr x 7).toUInt64 ^^^ (rotr x 18).toUInt64) ^^^ (x.toUInt64 >>> UInt64.ofNat 3)
def S1r (x : UInt32) : UInt64 := ((rotr x 17).toUInt64 ^^^ (rotr x 19).toUInt64) ^^^ (x.toUInt64 >>> UInt64.ofNat 10)
def nextW32 (ws : List UInt32) (t : Nat) : UInt32 := ws.getD (t - 16) 0 + ((rotr (ws.getD (t - 15) 0) 7 ^^^ rotr (ws.getD (t - 15) 0) 18) ^^^ (ws.getD (t - 15) 0) >>> UInt32.ofNat 3) + ws.getD (t - 7) 0 + ((rotr (ws.getD (t - 2) 0) 17 ^^^ rotr (ws.getD (t - 2) 0) 19) ^^^ (ws.getD (t - 2) 0) >>> UInt32.ofNat 10)
theorem nextW_big {b : List UInt8} {ws : List UInt32} {t : Nat} (h : 16 ≤ t) : nextW b ws t = nextW32 ws t := by
 rw [nextW, if_neg (by omega)]
 rfl
theorem nextW_up (ws : List UInt32) (t : Nat) : (((ws.getD (t - 16) 0).toUInt64 + S0r (ws.getD (t - 15) 0)) + (ws.getD (t - 7) 0).toUInt64 + S1r (ws.getD (t - 2) 0)) &&& 4294967295 = (nextW32 ws t).toUInt64 := by
 apply down32
 simp only [S0r, S1r, nextW32, UInt64.toUInt32_add, UInt64.toUInt32_xor, up_down, up_shr _ (show 3 < 32 by decide), up_shr _ (show 10 < 32 by decide)]
def T1r (V : V8) (k w : UInt32) : UInt64 := V.h.toUInt64 + (((rotr V.e 6).toUInt64 ^^^ (rotr V.e 11).toUInt64) ^^^ (rotr V.e 25).toUInt64) + ((V.e.toUInt64 &&& V.f.toUInt64) ^^^ ((V.e.toUInt64 ^^^ 4294967295) &&& V.g.toUInt64)) + k.toUInt64 + w.toUInt64
def T2r (V : V8) : UInt64 := (((rotr V.a 2).toUInt64 ^^^ (rotr V.a 13).toUInt64) ^^^ (rotr V.a 22).toUInt64) + (((V.a.toUInt64 &&& V.b.toUInt64) ^^^ (V.a.toUInt64 &&& V.c.toUInt64)) ^^^ (V.b.toUInt64 &&& V.c.toUInt64))
theorem round_up (V : V8) (k w : UInt32) : UL (round1 V k w) = [(T1r V k w + T2r V) &&& 4294967295, V.a.toUInt64, V.b.toUInt64, V.c.toUInt64, (V.d.toUInt64 + T1r V k w) &&& 4294967295, V.e.toUInt64, V.f.toUInt64, V.g.toUInt64] := by
 have h1 : (T1r V k w).toUInt32 = V.h + ((rotr V.e 6 ^^^ rotr V.e 11) ^^^ rotr V.e 25) + ((V.e &&& V.f) ^^^ (~~~V.e &&& V.g)) + k + w := by
  simp only [T1r, UInt64.toUInt32_add, UInt64.toUInt32_xor, UInt64.toUInt32_and, up_down]
  rw [← not_up V.e]
  simp only [UInt64.toUInt32_xor, up_down]
 have h2 : (T2r V).toUInt32 = ((rotr V.a 2 ^^^ rotr V.a 13) ^^^ rotr V.a 22) + (((V.a &&& V.b) ^^^ (V.a &&& V.c)) ^^^ (V.b &&& V.c)) := by
  simp only [T2r, UInt64.toUInt32_add, UInt64.toUInt32_xor, UInt64.toUInt32_and, up_down]
 rw [m32, m32, UInt64.toUInt32_add, UInt64.toUInt32_add, h1, h2, up_down]
 rfl
theorem add_up (a b : UInt32) : (a.toUInt64 + b.toUInt64) &&& 4294967295 = (a + b).toUInt64 := by
 rw [m32, UInt64.toUInt32_add, up_down, up_down]
theorem byte_up (x : UInt32) {k : Nat} (h : k < 32) : (x.toUInt64 >>> UInt64.ofNat k).toUInt8 = (x >>> UInt32.ofNat k).toUInt8 := by
 rw [← up_shr x h]
 apply UInt8.toNat_inj.1
 simp
theorem byte_up0 (x : UInt32) : x.toUInt64.toUInt8 = x.toUInt8 := by
 apply UInt8.toNat_inj.1
 simp
def accB (b : List UInt8) (t : Nat) : Nat → UInt64
 |0 => 0
 |i + 1 => accB b t i * 256 + (b.getD (4 * t + i) 0).toUInt64
theorem word_up (a b c d : UInt8) : ((((0 * 256 + a.toUInt64) * 256 + b.toUInt64) * 256 + c.toUInt64) * 256 + d.toUInt64 : UInt64) = (((a.toUInt32 <<< UInt32.ofNat 24 ||| b.toUInt32 <<< UInt32.ofNat 16) ||| c.toUInt32 <<< UInt32.ofNat 8) ||| d.toUInt32).toUInt64 := by
 have ha := a.toNat_lt
 have hb := b.toNat_lt
 have hc := c.toNat_lt
 have hd := d.toNat_lt
 apply UInt64.toNat_inj.1
 have e24 : (a.toUInt32 <<< UInt32.ofNat 24).toNat = a.toNat <<< 24 := by
  simp [UInt32.toNat_shiftLeft, Nat.shiftLeft_eq]
  omega
 have e16 : (b.toUInt32 <<< UInt32.ofNat 16).toNat = b.toNat <<< 16 := by
  simp [UInt32.toNat_shiftLeft, Nat.shiftLeft_eq]
  omega
 have e8 : (c.toUInt32 <<< UInt32.ofNat 8).toNat = c.toNat <<< 8 := by
  simp [UInt32.toNat_shiftLeft, Nat.shiftLeft_eq]
  omega
 rw [UInt32.toNat_toUInt64, UInt32.toNat_or, UInt32.toNat_or, UInt32.toNat_or, e24, e16, e8, UInt8.toNat_toUInt32]
 have h1 : c.toNat <<< 8 ||| d.toNat = c.toNat <<< 8 + d.toNat := (Nat.shiftLeft_add_eq_or_of_lt (by simpa using hd) _).symm
 have h2 : b.toNat <<< 16 ||| (c.toNat <<< 8 + d.toNat) = b.toNat <<< 16 + (c.toNat <<< 8 + d.toNat) := (Nat.shiftLeft_add_eq_or_of_lt (by rw [Nat.shiftLeft_eq]; omega) _).symm
 have h3 : a.toNat <<< 24 ||| (b.toNat <<< 16 + (c.toNat <<< 8 + d.toNat)) = a.toNat <<< 24 + (b.toNat <<< 16 + (c.toNat <<< 8 + d.toNat)) := (Nat.shiftLeft_add_eq_or_of_lt (by rw [Nat.shiftLeft_eq, Nat.shiftLeft_eq]; omega) _).symm
 rw [Nat.or_assoc, Nat.or_assoc, h1, h2, h3]
 simp only [UInt64.toNat_add, UInt64.toNat_mul, UInt8.toNat_toUInt64, Nat.shiftLeft_eq]
 simp
 omega
theorem accB_word (b : List UInt8) (t : Nat) : accB b t 4 = (wordAt b t).toUInt64 := word_up _ _ _ _
theorem nextW_small {b : List UInt8} {ws : List UInt32} {t : Nat} (h : t < 16) : nextW b ws t = wordAt b t := by rw [nextW, if_pos h]
def WU (b : List UInt8) (t : Nat) : List UInt64 := (sch b t).map UInt32.toUInt64
theorem WU_len (b : List UInt8) (t : Nat) : (WU b t).length = t := by rw [WU, List.length_map, sch_len]
theorem WU_next (b : List UInt8) (t : Nat) : WU b (t + 1) = WU b t ++ [(nextW b (sch b t) t).toUInt64] := by rw [WU, sch, List.map_append]; rfl
theorem WU_at {b : List UInt8} {t i : Nat} (h : i < t) : (WU b t)[i]? = some ((sch b t).getD i 0).toUInt64 := map_at _ (getD_at (by rw [sch_len]; exact h))
theorem getD_at64 {xs : List UInt64} {i : Nat} (h : i < xs.length) : xs[i]? = some (xs.getD i 0) := by
 rw [List.getD_eq_getElem?_getD, List.getElem?_eq_getElem h]
 rfl
section
variable {w w' : World} {T : TypeId} {n0 ca cb : Nat} {a b a2 : Option Addr} {xs ys : List UInt64}
theorem two_grow (hb : Row (fun x => n0 ≤ x ∧ ¬ Eqb a x) w T e64 b cb ys) (g : Grow (fun x => n0 ≤ x ∧ ¬ Eqb b x) w a w' a2) : Row (fun x => n0 ≤ x ∧ ¬ Eqb a2 x) w' T e64 b cb ys := by
 refine (hb.lt.chg g.chg (fun x _ h1 h2 => h1.1.2 h2.1)).mono (fun x h => ⟨h.1.1, fun e => ?_⟩)
 rcases g.fr with e1 | e1
 ·subst e1
  exact h.1.2 e
 ·have := e1.eqb e
  omega
theorem fresh_of (hb : Row (fun x => n0 ≤ x ∧ ¬ Eqb a x) w T e64 b cb ys) (hn : n0 ≤ w.heap.size) : ∀ x, w.heap.size ≤ x → n0 ≤ x ∧ ¬ Eqb b x := fun x hx => ⟨by omega, fun e => by
 have := hb.lt.at_.eqb e
 omega⟩
end
end Go.Proofs.YtjeldcjchipdgaaGreatDoor
