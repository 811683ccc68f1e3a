import Derived.Test.YtfkaioldfmapjaaHl
import Derived.Test.YtfkaioldfmapjaaHz
namespace Go.Proofs.Ytfkaioldfmapjaa
open Go.RowKit Go.HL

/-! the sums' own words -/
structure V8 where
  a : UInt32
  b : UInt32
  c : UInt32
  d : UInt32
  e : UInt32
  f : UInt32
  g : UInt32
  h : UInt32
def rotr (x : UInt32) (n : Nat) : UInt32 := (x <<< UInt32.ofNat (32 - n)) ||| (x >>> UInt32.ofNat n)
def wordAt (b : List UInt8) (t : Nat) : UInt32 := (((b.getD (4 * t) 0).toUInt32 <<< UInt32.ofNat 24 ||| (b.getD (4 * t + 1) 0).toUInt32 <<< UInt32.ofNat 16) ||| (b.getD (4 * t + 2) 0).toUInt32 <<< UInt32.ofNat 8) ||| (b.getD (4 * t + 3) 0).toUInt32
def nextW (b : List UInt8) (ws : List UInt32) (t : Nat) : UInt32 :=
  if t < 16 then wordAt b t
  else ws.getD (t - 16) 0 + ((rotr (ws.getD (t - 15) 0) 7 ^^^ rotr (ws.getD (t - 15) 0) 18) ^^^ (ws.getD (t - 15) 0) >>> UInt32.ofNat 3) + ws.getD (t - 7) 0 + ((rotr (ws.getD (t - 2) 0) 17 ^^^ rotr (ws.getD (t - 2) 0) 19) ^^^ (ws.getD (t - 2) 0) >>> UInt32.ofNat 10)
def sch (b : List UInt8) : Nat → List UInt32
  | 0 => []
  | t + 1 => let ws := sch b t; ws ++ [nextW b ws t]
def K256 : List UInt32 := [
    0x428a2f98, 0x71374491, 0xb5c0fbcf, 0xe9b5dba5, 0x3956c25b, 0x59f111f1, 0x923f82a4, 0xab1c5ed5,
    0xd807aa98, 0x12835b01, 0x243185be, 0x550c7dc3, 0x72be5d74, 0x80deb1fe, 0x9bdc06a7, 0xc19bf174,
    0xe49b69c1, 0xefbe4786, 0x0fc19dc6, 0x240ca1cc, 0x2de92c6f, 0x4a7484aa, 0x5cb0a9dc, 0x76f988da,
    0x983e5152, 0xa831c66d, 0xb00327c8, 0xbf597fc7, 0xc6e00bf3, 0xd5a79147, 0x06ca6351, 0x14292967,
    0x27b70a85, 0x2e1b2138, 0x4d2c6dfc, 0x53380d13, 0x650a7354, 0x766a0abb, 0x81c2c92e, 0x92722c85,
    0xa2bfe8a1, 0xa81a664b, 0xc24b8b70, 0xc76c51a3, 0xd192e819, 0xd6990624, 0xf40e3585, 0x106aa070,
    0x19a4c116, 0x1e376c08, 0x2748774c, 0x34b0bcb5, 0x391c0cb3, 0x4ed8aa4a, 0x5b9cca4f, 0x682e6ff3,
    0x748f82ee, 0x78a5636f, 0x84c87814, 0x8cc70208, 0x90befffa, 0xa4506ceb, 0xbef9a3f7, 0xc67178f2]
def round1 (v : V8) (k w : UInt32) : V8 :=
  let t1 := v.h + ((rotr v.e 6 ^^^ rotr v.e 11) ^^^ rotr v.e 25) + ((v.e &&& v.f) ^^^ (~~~v.e &&& v.g)) + k + w
  let t2 := ((rotr v.a 2 ^^^ rotr v.a 13) ^^^ rotr v.a 22) + (((v.a &&& v.b) ^^^ (v.a &&& v.c)) ^^^ (v.b &&& v.c))
  ⟨t1 + t2, v.a, v.b, v.c, v.d + t1, v.e, v.f, v.g⟩
def roundsN (w : List UInt32) (v : V8) : Nat → V8
  | 0 => v
  | t + 1 => round1 (roundsN w v t) (K256.getD t 0) (w.getD t 0)
def mix (s : V8) (b : List UInt8) : V8 :=
  let v := roundsN (sch b 64) s 64
  ⟨s.a + v.a, s.b + v.b, s.c + v.c, s.d + v.d, s.e + v.e, s.f + v.f, s.g + v.g, s.h + v.h⟩
def st0 : V8 := ⟨0x6a09e667, 0xbb67ae85, 0x3c6ef372, 0xa54ff53a, 0x510e527f, 0x9b05688c, 0x1f83d9ab, 0x5be0cd19⟩
def be8 (n : UInt64) (i : Nat) : List UInt8 := (List.range i).map fun q => (n >>> UInt64.ofNat (56 - 8 * q)).toUInt8
def padded (b : List UInt8) : List UInt8 := b ++ [128] ++ List.replicate ((120 - (b.length + 1) % 64) % 64) 0 ++ be8 (UInt64.ofNat b.length <<< UInt64.ofNat 3) 8

/-! turning -/
theorem rot_cnt {n : Nat} (h : 1 ≤ n ∧ n ≤ 31) : (B64 (-(n : Int)) &&& 31).toNat = 32 - n ∧ (32 - (B64 (-(n : Int)) &&& 31)).toNat = n := by
  have : ∀ m : Fin 32, 1 ≤ m.1 → (B64 (-(m.1 : Int)) &&& 31).toNat = 32 - m.1 ∧ (32 - (B64 (-(m.1 : Int)) &&& 31)).toNat = m.1 := by decide +kernel
  exact this ⟨n, by omega⟩ h.1
theorem rotl_calls (x : UInt32) (n : Nat) (w : World) (h : 1 ≤ n ∧ n ≤ 31) : Calls Try.prog 57 [v32 x, vi (-(n : Int))].toArray w (Ret fun v w' => v = v32 (rotr x n) ∧ Chg Nob w w') := by
  have hw := Chg.refl Nob w
  have hc := rot_cnt h
  refine Calls.of_WC Try.func57 rfl Try.ntmps57 (by simp) ?_
  refine WC.seq (WC.region (WL.assign rfl rfl (WL.nil (WX.then_normal (WC.seq (WC.region (WL.move rfl rfl (?_))))))))
  refine WL.c_i64_u64 Try.underlying3 Try.underlying39 rfl rfl (WL.num rfl rfl (n_and64 _ _ _ 31) rfl (WL.assign rfl rfl (WL.nil (WX.then_normal (WC.seq (WC.region (WL.move rfl rfl (?_))))))))
  refine WL.move rfl rfl (?_)
  refine WL.shl32v (32 - n) rfl rfl ⟨by rw [hc.1], by omega⟩ rfl ?_
  refine WL.move rfl rfl (WL.move rfl rfl (WL.num rfl rfl (n_sub64 _ _ 32 _) rfl (?_)))
  refine WL.shr32v n rfl rfl ⟨by rw [hc.2], by omega⟩ rfl ?_
  refine WL.num rfl rfl (n_or32 _ _ _ _) rfl (WL.assign rfl rfl (WL.nil (WX.then_normal (WC.ret (?_)))))
  refine WX.ret1 (.inl rfl) Try.results57 rfl ?_
  exact ⟨_, rfl, rfl, hw⟩
theorem ror_calls (x : UInt32) (n : Nat) (w : World) (h : 1 ≤ n ∧ n ≤ 31) : Calls Try.prog 53 [v32 x, vi (n : Int)].toArray w (Ret fun v w' => v = v32 (rotr x n) ∧ Chg Nob w w') := by
  have hw := Chg.refl Nob w
  refine Calls.of_WC Try.func53 rfl Try.ntmps53 (by simp) ?_
  refine WC.seq (WC.region (WL.assign rfl rfl (WL.nil (WX.then_normal (WC.seq (WC.region (WL.move rfl rfl (?_))))))))
  refine WL.move rfl rfl (WL.neg64 rfl (by first | omega | (constructor <;> omega)) rfl (?_))
  refine WL.call eg_57 rfl rfl (rotl_calls x n _ h) ?_
  rintro v w1 ⟨rfl, k⟩
  have zs_k := k.size
  replace hw := hw.pure k
  refine WL.assign rfl rfl (WL.nil (WX.then_normal (WC.ret (?_))))
  refine WX.ret1 (.inl rfl) Try.results53 rfl ?_
  exact ⟨_, rfl, rfl, hw⟩
/-! bytes of one's own -/
theorem clone_calls {S : Nat → Prop} {w : World} {ao : Option Addr} {c : Nat} {b : List UInt8} (hr : RSl S w eb ao c b) (hl : b.length ≤ 140737488351232) :
    Calls Try.prog 41 [.slice ao b.length c].toArray w (Ret fun v w' => (∃ (ao' : Option Addr) (c' : Nat), v = .slice ao' b.length c' ∧ Row (w.heap.size ≤ ·) w' 5 eb ao' c' b) ∧ Chg Nob w w') := by
  replace hr := hr.old
  have hw := Chg.refl Nob w
  refine Calls.of_WC Try.func41 rfl Try.ntmps41 (by simp) ?_
  refine WC.seq (WC.region (WL.assign rfl rfl (WL.nil (WX.then_normal (WC.seq (WC.seq (WC.region (?_))))))))
  refine WL.move rfl rfl (?_)
  refine WL.isNil? Try.underlying24 rfl rfl rfl (fun h4 => ?_) (fun h4 => ?_)
  ·
    refine WL.nil (WX.then_normal (WC.cond_true rfl (WC.seq (WC.region (WL.assign rfl rfl (WL.nil (WX.then_normal (?_))))))))
    refine WC.ret (WX.then_ret (?_))
    refine WX.ret1 (.inl rfl) Try.results41 rfl ?_
    first
      | (subst h4
         have hn := hr.none_nil
         subst hn
         exact ⟨_, rfl, ⟨none, 0, rfl, Row.nil _ _ _ _⟩, hw⟩)
      | exact ⟨_, rfl, ⟨_, _, rfl, hq2⟩, hw⟩
  ·
    refine WL.nil (WX.then_normal (WC.cond_false rfl (WC.skip (WX.then_normal (WC.seq (WC.region (?_)))))))
    refine WL.build (e := eb) [] Try.underlying24 Try.sizeOf5 Try.zeroValue5 rfl rfl rfl (by first | (simp [Value.cells]; done) | (simp [Value.cells] <;> rfl) | (simp [Value.cells, eb, ei, es, ebool, e32, e64]; done)) (by decide) rfl ?_
    intro a_hq w_hq hq l_hq z_hq k_hq
    have zs_k_hq := k_hq.size
    replace hr := hr.pure k_hq
    replace hw := hw.pure k_hq
    refine WL.move rfl rfl (?_)
    refine WL.append (e := eb) info_5 rfl Try.underlying24 rfl rfl hq (hr.src Try.underlying24) (by (try simp only [List.length_append, List.length_cons, List.length_nil] at *); omega) (by intro b hb; first | (apply hS; omega) | ((try dsimp only); omega)) rfl ?_
    intro a_hq2 c_hq2 w_hq2 hq2 g_hq2 n_hq2
    have z_hq2 := g_hq2.chg.size
    have zs_g_hq2_chg := g_hq2.chg.size
    replace hr := hr.chg g_hq2.chg (by first | (intro x h1 h2; exact h2) | (intro x h1 h2; have h3 : _ = _ := h2; exfalso; omega) | (intro b h1 h2 h3; have h4 : _ = _ := h3; (try dsimp only at h2); exfalso; omega) | (intro h1; have h2 : _ = _ := h1; exfalso; omega) | (intros; exfalso; (try dsimp only at *); omega) | (intro b h1 h2 h3; exfalso; have h4 := h3.2; (try dsimp only at *); omega) | (intro h1; exfalso; have h4 := h1.2; (try dsimp only at *); omega) | (intro x h1 h2; exfalso; have h4 := h2.2; (try dsimp only at *); omega) | (intro x h1 h2; exact h2.1))
    replace hw := hw.chg g_hq2.chg (by first | (intro x h1 h2; exact h2) | (intro x h1 h2; have h3 : _ = _ := h2; exfalso; omega) | (intro b h1 h2 h3; have h4 : _ = _ := h3; (try dsimp only at h2); exfalso; omega) | (intro h1; have h2 : _ = _ := h1; exfalso; omega) | (intros; exfalso; (try dsimp only at *); omega) | (intro b h1 h2 h3; exfalso; have h4 := h3.2; (try dsimp only at *); omega) | (intro h1; exfalso; have h4 := h1.2; (try dsimp only at *); omega) | (intro x h1 h2; exfalso; have h4 := h2.2; (try dsimp only at *); omega) | (intro x h1 h2; exact h2.1))
    refine WL.assign rfl rfl (WL.nil (WX.then_normal (WC.ret (?_))))
    refine WX.ret1 (.inl rfl) Try.results41 rfl ?_
    first
      | (subst h4
         have hn := hr.none_nil
         subst hn
         exact ⟨_, rfl, ⟨none, 0, rfl, Row.nil _ _ _ _⟩, hw⟩)
      | exact ⟨_, rfl, ⟨_, _, rfl, hq2⟩, hw⟩
/-! the message with what is put behind -/
theorem pad_calls {S : Nat → Prop} {w : World} {ao : Option Addr} {c : Nat} {b : List UInt8} (hr : RSl S w eb ao c b) (hl : b.length ≤ 140737488351232) :
    Calls Try.prog 39 [.slice ao b.length c].toArray w (Ret fun v w' => (∃ (ao' : Option Addr) (c' : Nat), v = .slice ao' (padded b).length c' ∧ Row (w.heap.size ≤ ·) w' 5 eb ao' c' (padded b)) ∧ Chg Nob w w') := by
  replace hr := hr.old
  have hw := Chg.refl Nob w
  refine Calls.of_WC Try.func39 rfl Try.ntmps39 (by simp) ?_
  refine WC.seq (WC.region (WL.assign rfl rfl (WL.nil (WX.then_normal (WC.seq (WC.region (WL.move rfl rfl (?_))))))))
  refine WL.call eg_41 rfl rfl (clone_calls hr hl) ?_
  rintro v w1 ⟨⟨a1, c1, rfl, hq⟩, k⟩
  have zs_k := k.size
  replace hr := hr.pure k
  replace hw := hw.pure k
  refine WL.build (e := eb) [128] Try.underlying24 Try.sizeOf5 Try.zeroValue5 rfl rfl rfl (by first | (simp [Value.cells]; done) | (simp [Value.cells] <;> rfl) | (simp [Value.cells, eb, ei, es, ebool, e32, e64]; done)) (by decide) rfl ?_
  intro a_hn w_hn hn l_hn z_hn k_hn
  have zs_k_hn := k_hn.size
  replace hr := hr.pure k_hn
  replace hw := hw.pure k_hn
  replace hq := hq.pure k_hn
  refine WL.append (e := eb) info_5 rfl Try.underlying24 rfl rfl hq (hn.rsl.src Try.underlying24) (by (try simp only [List.length_append, List.length_cons, List.length_nil] at *); omega) (by intro b hb; first | (apply hS; omega) | ((try dsimp only); omega)) rfl ?_
  intro a_hq1 c_hq1 w_hq1 hq1 g_hq1 n_hq1
  have z_hq1 := g_hq1.chg.size
  have zs_g_hq1_chg := g_hq1.chg.size
  replace hr := hr.chg g_hq1.chg (by first | (intro x h1 h2; exact h2) | (intro x h1 h2; have h3 : _ = _ := h2; exfalso; omega) | (intro b h1 h2 h3; have h4 : _ = _ := h3; (try dsimp only at h2); exfalso; omega) | (intro h1; have h2 : _ = _ := h1; exfalso; omega) | (intros; exfalso; (try dsimp only at *); omega) | (intro b h1 h2 h3; exfalso; have h4 := h3.2; (try dsimp only at *); omega) | (intro h1; exfalso; have h4 := h1.2; (try dsimp only at *); omega) | (intro x h1 h2; exfalso; have h4 := h2.2; (try dsimp only at *); omega) | (intro x h1 h2; exact h2.1))
  replace hw := hw.chg g_hq1.chg (by first | (intro x h1 h2; exact h2) | (intro x h1 h2; have h3 : _ = _ := h2; exfalso; omega) | (intro b h1 h2 h3; have h4 : _ = _ := h3; (try dsimp only at h2); exfalso; omega) | (intro h1; have h2 : _ = _ := h1; exfalso; omega) | (intros; exfalso; (try dsimp only at *); omega) | (intro b h1 h2 h3; exfalso; have h4 := h3.2; (try dsimp only at *); omega) | (intro h1; exfalso; have h4 := h1.2; (try dsimp only at *); omega) | (intro x h1 h2; exfalso; have h4 := h2.2; (try dsimp only at *); omega) | (intro x h1 h2; exact h2.1))
  refine WL.assign rfl rfl (WL.nil (WX.then_normal (WC.seq (WC.block (?_)))))
  refine WC.loop (σ := Nat × Option Addr × Nat) (fun s => [(3, .slice s.2.1 (b ++ [128] ++ List.replicate s.1 0).length s.2.2), (0, .slice ao b.length c)])
    (fun s w' => s.1 ≤ (120 - (b.length + 1) % 64) % 64 ∧ Row (w.heap.size ≤ ·) w' 5 eb s.2.1 s.2.2 (b ++ [128] ++ List.replicate s.1 0) ∧ RSl (· < w.heap.size) w' eb ao c b ∧ Chg Nob w w') (fun s => 64 - s.1) (0, a_hq1, c_hq1) ⟨by rw [show List.replicate 0 (0 : UInt8) = [] from rfl, List.append_nil]; rfl, rfl, trivial⟩ ⟨by simp, by simpa using hq1, hr, hw⟩ ?_
  clear hr hw hn hq1 hq
  rintro ⟨j, a1, c1⟩ w2 ⟨hj, hq, hr, hw⟩
  dsimp only at hj hq hr hw ⊢
  have zw := hw.size
  have hlen : (b ++ [128] ++ List.replicate j 0).length = b.length + 1 + j := by simp; omega
  refine WC.seq (WC.seq (WC.region (WL.move rfl rfl (WL.len Try.underlying24 rfl rfl (WL.rem64i rfl rfl (by constructor <;> omega) rfl (?_))))))
  refine WL.neq? rfl rfl rfl (fun h13 => ?_) (fun h13 => ?_)
  ·
    refine WL.nil (WX.then_normal (WC.cond_true rfl (WC.skip (WX.then_normal (WC.block (WC.region (WL.move rfl rfl (?_))))))))
    refine WL.build (e := eb) [0] Try.underlying24 Try.sizeOf5 Try.zeroValue5 rfl rfl rfl (by first | (simp [Value.cells]; done) | (simp [Value.cells] <;> rfl) | (simp [Value.cells, eb, ei, es, ebool, e32, e64]; done)) (by decide) rfl ?_
    intro a_hn w_hn hn l_hn z_hn k_hn
    have zs_k_hn := k_hn.size
    replace hq := hq.pure k_hn
    replace hr := hr.pure k_hn
    replace hw := hw.pure k_hn
    refine WL.append (e := eb) info_5 rfl Try.underlying24 rfl rfl hq (hn.rsl.src Try.underlying24) (by (try simp only [List.length_append, List.length_cons, List.length_nil] at *); omega) (by intro b hb; first | (apply hS; omega) | ((try dsimp only); omega)) rfl ?_
    intro a_hq2 c_hq2 w_hq2 hq2 g_hq2 n_hq2
    have z_hq2 := g_hq2.chg.size
    have zs_g_hq2_chg := g_hq2.chg.size
    replace hr := hr.chg g_hq2.chg (by first | (intro x h1 h2; exact h2) | (intro x h1 h2; have h3 : _ = _ := h2; exfalso; omega) | (intro b h1 h2 h3; have h4 : _ = _ := h3; (try dsimp only at h2); exfalso; omega) | (intro h1; have h2 : _ = _ := h1; exfalso; omega) | (intros; exfalso; (try dsimp only at *); omega) | (intro b h1 h2 h3; exfalso; have h4 := h3.2; (try dsimp only at *); omega) | (intro h1; exfalso; have h4 := h1.2; (try dsimp only at *); omega) | (intro x h1 h2; exfalso; have h4 := h2.2; (try dsimp only at *); omega) | (intro x h1 h2; exact h2.1))
    replace hw := hw.chg g_hq2.chg (by first | (intro x h1 h2; exact h2) | (intro x h1 h2; have h3 : _ = _ := h2; exfalso; omega) | (intro b h1 h2 h3; have h4 : _ = _ := h3; (try dsimp only at h2); exfalso; omega) | (intro h1; have h2 : _ = _ := h1; exfalso; omega) | (intros; exfalso; (try dsimp only at *); omega) | (intro b h1 h2 h3; exfalso; have h4 := h3.2; (try dsimp only at *); omega) | (intro h1; exfalso; have h4 := h1.2; (try dsimp only at *); omega) | (intro x h1 h2; exfalso; have h4 := h2.2; (try dsimp only at *); omega) | (intro x h1 h2; exact h2.1))
    refine WL.assign rfl rfl (WL.nil (WX.block_normal (?_)))
    first
      | (have e1 : b ++ [128] ++ List.replicate (j + 1) 0 = b ++ [128] ++ List.replicate j 0 ++ [0] := by rw [List.replicate_succ', List.append_assoc, List.append_assoc, List.append_assoc]
         refine WX.loop_next (j + 1, a_hq2, c_hq2) ⟨?_, rfl, trivial⟩ ⟨by dsimp only; omega, ?_, hr, hw⟩ (by show _ - _ < _ - _; omega)
         ·
           dsimp only; rw [e1]; rfl
         ·
           dsimp only; rw [e1]; exact hq2)
      | (have e1 : be8 (UInt64.ofNat b.length <<< UInt64.ofNat 3) (i + 1) = be8 (UInt64.ofNat b.length <<< UInt64.ofNat 3) i ++ [((UInt64.ofNat b.length <<< UInt64.ofNat 3) >>> UInt64.ofNat (56 - 8 * i)).toUInt8] := by simp [be8, List.range_succ]
         refine WX.loop_next (i + 1, a_hq2, c_hq2) ⟨?_, rfl, ?_, trivial⟩ ⟨by dsimp only; omega, ?_, hw⟩ (by show _ - _ < _ - _; omega)
         ·
           dsimp only; rw [e1, ← List.append_assoc]; rfl
         ·
           dsimp only
           have e2 : 56 - 8 * ((i + 1 : Nat) : Int) = 56 - 8 * (i : Int) - 8 := by omega
           rw [e2]; rfl
         ·
           dsimp only; rw [e1, ← List.append_assoc]; exact hq2)
  ·
    refine WL.nil (WX.then_normal (WC.cond_false rfl (WC.exit (WX.then_exit (WX.then_exit (WX.block_here (WX.then_normal (?_))))))))
    refine WC.seq (WC.region (WL.move rfl rfl (WL.len Try.underlying24 rfl rfl (WL.c_i64_u64 Try.underlying3 Try.underlying38 rfl rfl (WL.num rfl rfl (n_shl64 _ _ _ _ 3 (by decide)) rfl (WL.assign rfl rfl (WL.nil (?_))))))))
    refine WX.then_normal (WC.seq (WC.seq (WC.region (WL.assign rfl rfl (WL.nil (WX.then_normal (WC.block (?_))))))))
    have hz : j = (120 - (b.length + 1) % 64) % 64 := by omega
    have hn8 : (B64 (b.length : Int)) = UInt64.ofNat b.length := by
      apply UInt64.toNat_inj.1
      rw [B64_nat (by omega)]
      simp
      omega
    rw [hn8]
    refine WC.loop (σ := Nat × Option Addr × Nat) (fun s => [(3, .slice s.2.1 (b ++ [128] ++ List.replicate j 0 ++ be8 (UInt64.ofNat b.length <<< UInt64.ofNat 3) s.1).length s.2.2), (4, v64 (UInt64.ofNat b.length <<< UInt64.ofNat 3)), (5, vi (56 - 8 * (s.1 : Int)))])
      (fun s w' => s.1 ≤ 8 ∧ Row (w.heap.size ≤ ·) w' 5 eb s.2.1 s.2.2 (b ++ [128] ++ List.replicate j 0 ++ be8 (UInt64.ofNat b.length <<< UInt64.ofNat 3) s.1) ∧ Chg Nob w w') (fun s => 8 - s.1) (0, a1, c1) ⟨by rw [show be8 (UInt64.ofNat b.length <<< UInt64.ofNat 3) 0 = [] from rfl, List.append_nil]; rfl, rfl, rfl, trivial⟩ ⟨by simp, by simpa [be8] using hq, hw⟩ ?_
    clear hr hw hq
    rintro ⟨i, a2, c2⟩ w3 ⟨hi, hq, hw⟩
    dsimp only at hi hq hw ⊢
    have zw3 := hw.size
    have hlen3 : (b ++ [128] ++ List.replicate j 0 ++ be8 (UInt64.ofNat b.length <<< UInt64.ofNat 3) i).length = b.length + 1 + j + i := by simp [be8]; omega
    refine WC.seq (WC.seq (WC.region (WL.move rfl rfl (?_))))
    refine WL.geq? rfl rfl rfl (fun h22 => ?_) (fun h22 => ?_)
    ·
      refine WL.nil (WX.then_normal (WC.cond_true rfl (WC.skip (WX.then_normal (WC.seq (WC.block (WC.region (?_))))))))
      refine WL.move rfl rfl (WL.move rfl rfl (WL.move rfl rfl (?_)))
      refine WL.shrv (56 - 8 * i) rfl rfl ⟨by omega, by omega⟩ rfl ?_
      refine WL.c_u64_u8 Try.underlying38 Try.underlying5 rfl rfl (?_)
      refine WL.build (e := eb) [((UInt64.ofNat b.length <<< UInt64.ofNat 3) >>> UInt64.ofNat (56 - 8 * i)).toUInt8] Try.underlying24 Try.sizeOf5 Try.zeroValue5 rfl rfl rfl (by first | (simp [Value.cells]; done) | (simp [Value.cells] <;> rfl) | (simp [Value.cells, eb, ei, es, ebool, e32, e64]; done)) (by decide) rfl ?_
      intro a_hn w_hn hn l_hn z_hn k_hn
      have zs_k_hn := k_hn.size
      replace hq := hq.pure k_hn
      replace hw := hw.pure k_hn
      refine WL.append (e := eb) info_5 rfl Try.underlying24 rfl rfl hq (hn.rsl.src Try.underlying24) (by (try simp only [List.length_append, List.length_cons, List.length_nil] at *); omega) (by intro b hb; first | (apply hS; omega) | ((try dsimp only); omega)) rfl ?_
      intro a_hq2 c_hq2 w_hq2 hq2 g_hq2 n_hq2
      have z_hq2 := g_hq2.chg.size
      have zs_g_hq2_chg := g_hq2.chg.size
      replace hw := hw.chg g_hq2.chg (by first | (intro x h1 h2; exact h2) | (intro x h1 h2; have h3 : _ = _ := h2; exfalso; omega) | (intro b h1 h2 h3; have h4 : _ = _ := h3; (try dsimp only at h2); exfalso; omega) | (intro h1; have h2 : _ = _ := h1; exfalso; omega) | (intros; exfalso; (try dsimp only at *); omega) | (intro b h1 h2 h3; exfalso; have h4 := h3.2; (try dsimp only at *); omega) | (intro h1; exfalso; have h4 := h1.2; (try dsimp only at *); omega) | (intro x h1 h2; exfalso; have h4 := h2.2; (try dsimp only at *); omega) | (intro x h1 h2; exact h2.1))
      refine WL.assign rfl rfl (WL.nil (WX.block_normal (WX.then_normal (WC.region (WL.move rfl rfl (WL.sub64 rfl rfl (by first | omega | (constructor <;> omega)) rfl (WL.assign rfl rfl (?_))))))))
      refine WL.nil (?_)
      first
        | (have e1 : b ++ [128] ++ List.replicate (j + 1) 0 = b ++ [128] ++ List.replicate j 0 ++ [0] := by rw [List.replicate_succ', List.append_assoc, List.append_assoc, List.append_assoc]
           refine WX.loop_next (j + 1, a_hq2, c_hq2) ⟨?_, rfl, trivial⟩ ⟨by dsimp only; omega, ?_, hr, hw⟩ (by show _ - _ < _ - _; omega)
           ·
             dsimp only; rw [e1]; rfl
           ·
             dsimp only; rw [e1]; exact hq2)
        | (have e1 : be8 (UInt64.ofNat b.length <<< UInt64.ofNat 3) (i + 1) = be8 (UInt64.ofNat b.length <<< UInt64.ofNat 3) i ++ [((UInt64.ofNat b.length <<< UInt64.ofNat 3) >>> UInt64.ofNat (56 - 8 * i)).toUInt8] := by simp [be8, List.range_succ]
           refine WX.loop_next (i + 1, a_hq2, c_hq2) ⟨?_, rfl, ?_, trivial⟩ ⟨by dsimp only; omega, ?_, hw⟩ (by show _ - _ < _ - _; omega)
           ·
             dsimp only; rw [e1, ← List.append_assoc]; rfl
           ·
             dsimp only
             have e2 : 56 - 8 * ((i + 1 : Nat) : Int) = 56 - 8 * (i : Int) - 8 := by omega
             rw [e2]; rfl
           ·
             dsimp only; rw [e1, ← List.append_assoc]; exact hq2)
    ·
      refine WL.nil (WX.then_normal (WC.cond_false rfl (WC.exit (WX.then_exit (WX.then_exit (WX.block_here (WX.then_normal (?_))))))))
      refine WC.seq (WC.region (WL.move rfl rfl (WL.assign rfl rfl (WL.nil (WX.then_normal (WC.ret (?_)))))))
      refine WX.ret1 (.inl rfl) Try.results39 rfl ?_
      have hi8 : i = 8 := by omega
      have e1 : padded b = b ++ [128] ++ List.replicate j 0 ++ be8 (UInt64.ofNat b.length <<< UInt64.ofNat 3) i := by rw [hi8, hz]; rfl
      rw [e1]
      exact ⟨_, rfl, ⟨a2, c2, rfl, hq⟩, hw⟩
end Go.Proofs.Ytfkaioldfmapjaa
