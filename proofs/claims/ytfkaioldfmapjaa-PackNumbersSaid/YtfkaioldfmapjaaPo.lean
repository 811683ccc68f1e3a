import Derived.Test.YtfkaioldfmapjaaPn
namespace Go.Proofs.Ytfkaioldfmapjaa
open Go.RowKit Go.HL

/-! how many bytes a number has -/
def grp (m : Nat) : Nat := if 0 < m then grp (m / 128) + 1 else 0
termination_by m
decreasing_by omega
theorem grp_zero : grp 0 = 0 := by rw [grp, if_neg (by omega)]
theorem grp_pos {m : Nat} (h : 0 < m) : grp m = grp (m / 128) + 1 := by rw [grp, if_pos h]
theorem cnt_grp (z : Nat) : (cnt z).length = 1 + grp (z / 128) := by
  induction z using Nat.strongRecOn with
  | _ z ih =>
    by_cases h : 128 ≤ z
    · rw [cnt_big h, List.length_cons, ih (z / 128) (by omega), grp_pos (m := z / 128) (by omega)]
      omega
    · rw [cnt_small (by omega), show z / 128 = 0 from by omega, grp_zero]
      rfl
theorem grp_le (k : Nat) : ∀ m, m < 128 ^ k → grp m ≤ k := by
  induction k with
  | zero => intro m h; simp at h; subst h; simp [grp_zero]
  | succ k ih =>
    intro m h
    by_cases hm : 0 < m
    · rw [grp_pos hm]
      have := ih (m / 128) (by rw [Nat.div_lt_iff_lt_mul (by decide)]; rw [Nat.pow_succ] at h; exact h)
      omega
    · have : m = 0 := by omega
      subst this
      simp [grp_zero]
/-- the bigger side of a number -/
def side (n : Int) : Int := if -1 - n > n then -1 - n else n
theorem side_zig (n : Int) : zig n / 128 = (side n).toNat / 64 := by
  unfold zig side
  split <;> split <;> omega
theorem side_zig2 (n : Int) : zig (-1 - n) / 128 = (side n).toNat / 64 := by
  unfold zig side
  split <;> split <;> omega
theorem one_ok (n : Int) : checkE [⟨1, n, ⟨#[]⟩⟩] = 0 := by simp [checkE, longI, okI]
theorem one_len {n : Int} (h : RIt ⟨1, n, ⟨#[]⟩⟩) : (encAll [⟨1, n, ⟨#[]⟩⟩]).length = 1 + (cnt (zig n)).length := by
  have e : encAll [⟨1, n, ⟨#[]⟩⟩] = enc1 ⟨1, n, ⟨#[]⟩⟩ := by simp [encAll]
  rw [e, ← renc1_eq (by simp [okI]) h, renc1, if_pos rfl, List.length_cons]
  show (cnt (zig n)).length + 1 = _
  omega

theorem packNumbers_calls {w : World} {n : Int} (hn : -9223372036854775808 ≤ n ∧ n ≤ 9223372036854775807) :
    Calls Try.prog 6 [vi n].toArray w (Ret fun v w' => v = .bool true ∧ Chg Nob w w') := by
  have hw := Chg.refl Nob w
  have e0 := one_ok n
  have e1 := one_ok (-1 - n)
  have r0 : RIt ⟨1, n, ⟨#[]⟩⟩ := hn
  have r1 : RIt ⟨1, -1 - n, ⟨#[]⟩⟩ := ⟨by show _ ≤ -1 - n; omega, by show -1 - n ≤ _; omega⟩
  have w0 : ∀ i ∈ [(⟨1, n, ⟨#[]⟩⟩ : Item)], RIt i := by intro i hi; rw [List.mem_singleton.1 hi]; exact r0
  have len0 : (encAll [⟨1, n, ⟨#[]⟩⟩]).length = 2 + grp ((side n).toNat / 64) := by rw [one_len r0, cnt_grp, side_zig]; omega
  have len1 : (encAll [⟨1, -1 - n, ⟨#[]⟩⟩]).length = 2 + grp ((side n).toNat / 64) := by rw [one_len r1, cnt_grp, side_zig2]; omega
  have hs : 0 ≤ side n ∧ side n ≤ 9223372036854775807 := by unfold side; split <;> omega
  have hg : grp ((side n).toNat / 64) ≤ 10 := grp_le 10 _ (by omega)
  refine Calls.of_WC Try.func6 rfl Try.ntmps6 (by simp) ?_
  refine WC.seq (WC.region (WL.assign rfl rfl (WL.nil (WX.then_normal (WC.seq (WC.seq (WC.region (?_))))))))
  refine WL.call eg_13 rfl rfl (known5_calls _) ?_
  rintro v w1 ⟨rfl, k0⟩
  have zs_k0 := k0.size
  replace hw := hw.pure k0
  refine WL.not rfl rfl (WL.nil (WX.then_normal (WC.cond_false rfl (WC.skip (WX.then_normal (WC.seq (WC.region (?_))))))))
  refine WL.move rfl rfl (WL.bld rfl (bld_37_0_1 _ _) rfl (?_))
  refine WL.build (e := eit) [⟨1, n, ⟨#[]⟩⟩] Try.underlying22 Try.sizeOf37 Try.zeroValue37 rfl rfl rfl (by first | (simp [Value.cells]; done) | (simp [Value.cells] <;> rfl) | (simp [Value.cells, eb, ei, es, ebool, e32, e64]; done)) (by decide) rfl ?_
  intro a_ha w_ha ha l_ha z_ha k_ha
  have zs_k_ha := k_ha.size
  replace hw := hw.pure k_ha
  refine WL.call eg_14 rfl rfl (encode_calls ha.rsl (by simp)) ?_
  rintro v w2 ⟨ax, cx, rfl, hx, k2⟩
  rw [if_pos e0] at hx ⊢
  rw [e0]
  have zs_k2 := k2.size
  replace hw := hw.pure k2
  replace ha := ha.pure k2
  replace hx := hx.lt
  refine WL.move rfl rfl (WL.extract rfl rfl rfl (WL.extract rfl rfl rfl (WL.assign rfl rfl (WL.assign rfl rfl (WL.nil (WX.then_normal (WC.seq (?_))))))))
  refine WC.region (WL.move rfl rfl (WL.sub64 rfl rfl (by first | omega | (constructor <;> omega)) rfl (WL.bld rfl (bld_37_0_1 _ _) rfl (?_))))
  refine WL.build (e := eit) [⟨1, -1 - n, ⟨#[]⟩⟩] Try.underlying22 Try.sizeOf37 Try.zeroValue37 rfl rfl rfl (by first | (simp [Value.cells]; done) | (simp [Value.cells] <;> rfl) | (simp [Value.cells, eb, ei, es, ebool, e32, e64]; done)) (by decide) rfl ?_
  intro a_hb w_hb hb l_hb z_hb k_hb
  have zs_k_hb := k_hb.size
  replace hw := hw.pure k_hb
  replace ha := ha.pure k_hb
  replace hx := hx.pure k_hb
  refine WL.call eg_14 rfl rfl (encode_calls hb.rsl (by simp)) ?_
  rintro v w2 ⟨ay, cy, rfl, hy, k2⟩
  rw [if_pos e1] at hy ⊢
  rw [e1]
  have zs_k2 := k2.size
  replace hw := hw.pure k2
  replace ha := ha.pure k2
  replace hx := hx.pure k2
  replace hb := hb.pure k2
  replace hy := hy.lt
  refine WL.move rfl rfl (WL.extract rfl rfl rfl (WL.extract rfl rfl rfl (WL.assign rfl rfl (WL.assign rfl rfl (WL.nil (WX.then_normal (WC.seq (?_))))))))
  refine WC.region (WL.move rfl rfl (?_))
  have hx2 := hx.rsl.old
  refine WL.call eg_17 rfl rfl (decode_calls' hx2 (by omega)) ?_
  rintro v w4 ⟨⟨ak, ck, rfl, hk⟩, k4⟩
  rw [decL_enc e0 w0] at hk ⊢
  rw [decE_enc e0 w0]
  have zs_k4 := k4.size
  replace hw := hw.pure k4
  replace ha := ha.pure k4
  replace hx := hx.pure k4
  replace hb := hb.pure k4
  replace hy := hy.pure k4
  replace hk := hk.lt
  refine WL.move rfl rfl (WL.extract rfl rfl rfl (WL.extract rfl rfl rfl (WL.assign rfl rfl (WL.assign rfl rfl (WL.nil (WX.then_normal (WC.seq (?_))))))))
  refine WC.region (WL.assign rfl rfl (WL.nil (WX.then_normal (WC.seq (WC.seq (WC.region (WL.move rfl rfl (?_))))))))
  refine WL.move rfl rfl (WL.sub64 rfl rfl (by first | omega | (constructor <;> omega)) rfl (?_))
  refine WL.maxi rfl rfl rfl ?_
  refine WL.c_i64_u64 Try.underlying3 Try.underlying38 rfl rfl (WL.num rfl rfl (n_shr64 _ _ _ _ 6 (by decide)) rfl (WL.assign rfl rfl (WL.nil (WX.then_normal (WC.block (?_))))))
  have hm0 : (B64 (side n) >>> UInt64.ofNat 6).toNat = (side n).toNat / 64 := by
    have e : (B64 (side n)).toNat = (side n).toNat := by simp [B64]; omega
    rw [UInt64.toNat_shiftRight, e]
    simp [Nat.shiftRight_eq_div_pow]
  refine WC.loop (σ := Nat × UInt64) (fun s => [(9, vi s.1), (10, v64 s.2), (0, vi n), (3, .slice ax (encAll [⟨1, n, ⟨#[]⟩⟩]).length cx), (4, vi 0), (5, .slice ay (encAll [⟨1, -1 - n, ⟨#[]⟩⟩]).length cy), (6, vi 0), (7, .slice ak [(⟨1, n, ⟨#[]⟩⟩ : Item)].length ck), (8, vi 0)])
    (fun s w' => s.1 + grp s.2.toNat = 2 + grp ((side n).toNat / 64) ∧ RSl (fun _ => True) w' eit ak ck [⟨1, n, ⟨#[]⟩⟩] ∧ Chg Nob w w') (fun s => s.2.toNat) (2, B64 (side n) >>> UInt64.ofNat 6) ⟨rfl, rfl, rfl, rfl, rfl, rfl, rfl, rfl, rfl, trivial⟩ ⟨by dsimp only; rw [hm0], hk.rsl.mono fun _ _ => trivial, hw⟩ ?_
  clear hk hx hy hw ha hb
  rintro ⟨sz, m⟩ w5 ⟨hi, hq, hw⟩
  dsimp only at hi hq hw ⊢
  refine WC.seq (WC.seq (WC.region (WL.move rfl rfl (?_))))
  refine WL.gtr? rfl rfl rfl (fun h40 => ?_) (fun h40 => ?_)
  ·
    refine WL.nil (WX.then_normal (WC.cond_true rfl (WC.skip (WX.then_normal (WC.seq (WC.block (WC.region (?_))))))))
    refine WL.move rfl rfl (WL.add64 rfl rfl (by first | omega | (constructor <;> omega)) rfl (WL.assign rfl rfl (WL.nil (WX.block_normal (WX.then_normal (WC.region (WL.move rfl rfl (?_))))))))
    refine WL.num rfl rfl (n_shr64 _ _ _ _ 7 (by decide)) rfl (WL.assign rfl rfl (WL.nil (?_)))
    have hm : (m >>> UInt64.ofNat 7).toNat = m.toNat / 128 := by simp [Nat.shiftRight_eq_div_pow]
    have hg1 := grp_pos (m := m.toNat) (by omega)
    refine WX.loop_next (sz + 1, m >>> UInt64.ofNat 7) ⟨rfl, rfl, rfl, rfl, rfl, rfl, rfl, rfl, rfl, trivial⟩ ⟨by dsimp only; rw [hm]; omega, hq, hw⟩ ?_
    show (m >>> UInt64.ofNat 7).toNat < m.toNat
    rw [hm]
    omega
  ·
    refine WL.nil (WX.then_normal (WC.cond_false rfl (WC.exit (WX.then_exit (WX.then_exit (WX.block_here (WX.then_normal (?_))))))))
    refine WC.seq (WC.region (WL.move rfl rfl (?_)))
    refine WL.eql? rfl rfl rfl (fun h46 => ?_) (fun h46 => ?_)
    ·
      refine WL.move rfl rfl (WL.want rfl rfl rfl (WL.move rfl rfl (WL.want rfl rfl rfl (?_))))
      refine WL.eql? rfl rfl rfl (fun h49 => ?_) (fun h49 => ?_)
      ·
        refine WL.pickT rfl rfl rfl (WL.move rfl rfl (WL.want rfl rfl rfl (WL.move rfl rfl (WL.want rfl rfl rfl (?_)))))
        refine WL.eql? rfl rfl rfl (fun h53 => ?_) (fun h53 => ?_)
        ·
          refine WL.pickT rfl rfl rfl (WL.move rfl rfl (WL.want rfl rfl rfl (WL.move rfl rfl (WL.want rfl rfl rfl (WL.len Try.underlying24 rfl rfl (WL.want rfl rfl rfl (WL.move rfl rfl (?_))))))))
          refine WL.want rfl rfl rfl (?_)
          refine WL.eql? rfl rfl rfl (fun h59 => ?_) (fun h59 => ?_)
          ·
            refine WL.pickT rfl rfl rfl (WL.move rfl rfl (WL.want rfl rfl rfl (WL.move rfl rfl (WL.want rfl rfl rfl (WL.len Try.underlying24 rfl rfl (WL.want rfl rfl rfl (WL.move rfl rfl (?_))))))))
            refine WL.want rfl rfl rfl (?_)
            refine WL.eql? rfl rfl rfl (fun h65 => ?_) (fun h65 => ?_)
            ·
              refine WL.pickT rfl rfl rfl (WL.move rfl rfl (WL.want rfl rfl rfl (WL.move rfl rfl (WL.want rfl rfl rfl (WL.len Try.underlying22 rfl rfl (WL.want rfl rfl rfl (?_)))))))
              refine WL.eql? rfl rfl rfl (fun h70 => ?_) (fun h70 => ?_)
              ·
                refine WL.pickT rfl rfl rfl (WL.move rfl rfl (WL.want rfl rfl rfl (WL.move rfl rfl (WL.want rfl rfl rfl (?_)))))
                have h0 : [(⟨1, n, ⟨#[]⟩⟩ : Item)][0]? = some ⟨1, n, ⟨#[]⟩⟩ := rfl
                refine WL.indexT Try.underlying22 Try.sizeOf37 hq rfl rfl ⟨h0, rfl⟩ rfl ?_
                intro b_1 o_1 hc_1
                refine WL.want rfl rfl rfl (WL.fieldAddr (fld_37_1) rfl rfl (WL.want rfl rfl rfl (WL.load Try.isAgg3 rfl (hc_1 _ _ rfl) rfl (WL.want rfl rfl rfl (WL.move rfl rfl (WL.want rfl rfl rfl (WL.eql rfl rfl rfl (?_))))))))
                refine WL.pickT rfl rfl rfl (WL.assign rfl rfl (WL.nil (WX.then_normal (WC.ret (?_)))))
                refine WX.ret1 (.inl rfl) Try.results6 rfl ?_
                have hg0 : grp m.toNat = 0 := by rw [show m.toNat = 0 from by omega]; exact grp_zero
                first
                  | (refine ⟨_, rfl, ?_, hw⟩; exact congrArg Value.bool (decide_eq_true rfl))
                  | (exfalso; exact h46 rfl)
                  | (exfalso; exact h49 rfl)
                  | (exfalso; exact h53 rfl)
                  | (exfalso; omega)
                  | (exfalso; exact h70 rfl)
              ·
                refine WL.pickT rfl rfl rfl (WL.move rfl rfl (WL.pass rfl rfl rfl rfl (WL.pass rfl rfl rfl rfl (WL.pass rfl rfl rfl rfl (WL.pass rfl rfl rfl rfl (WL.pass rfl rfl rfl rfl (WL.pass rfl rfl rfl rfl (?_))))))))
                refine WL.pickF rfl rfl rfl (WL.assign rfl rfl (WL.nil (WX.then_normal (WC.ret (?_)))))
                refine WX.ret1 (.inl rfl) Try.results6 rfl ?_
                have hg0 : grp m.toNat = 0 := by rw [show m.toNat = 0 from by omega]; exact grp_zero
                first
                  | (refine ⟨_, rfl, ?_, hw⟩; exact congrArg Value.bool (decide_eq_true rfl))
                  | (exfalso; exact h46 rfl)
                  | (exfalso; exact h49 rfl)
                  | (exfalso; exact h53 rfl)
                  | (exfalso; omega)
                  | (exfalso; exact h70 rfl)
            ·
              refine WL.pickT rfl rfl rfl (WL.move rfl rfl (WL.pass rfl rfl rfl rfl (WL.pass rfl rfl rfl rfl (WL.pass rfl rfl rfl rfl (WL.pickF rfl rfl rfl (WL.move rfl rfl (WL.pass rfl rfl rfl rfl (?_))))))))
              refine WL.pass rfl rfl rfl rfl (WL.pass rfl rfl rfl rfl (WL.pass rfl rfl rfl rfl (WL.pass rfl rfl rfl rfl (WL.pass rfl rfl rfl rfl (WL.pickF rfl rfl rfl (WL.assign rfl rfl (WL.nil (?_))))))))
              refine WX.then_normal (WC.ret (?_))
              refine WX.ret1 (.inl rfl) Try.results6 rfl ?_
              have hg0 : grp m.toNat = 0 := by rw [show m.toNat = 0 from by omega]; exact grp_zero
              first
                | (refine ⟨_, rfl, ?_, hw⟩; exact congrArg Value.bool (decide_eq_true rfl))
                | (exfalso; exact h46 rfl)
                | (exfalso; exact h49 rfl)
                | (exfalso; exact h53 rfl)
                | (exfalso; omega)
                | (exfalso; exact h70 rfl)
          ·
            refine WL.pickT rfl rfl rfl (WL.move rfl rfl (WL.pass rfl rfl rfl rfl (WL.pass rfl rfl rfl rfl (WL.pass rfl rfl rfl rfl (WL.pass rfl rfl rfl rfl (WL.pickF rfl rfl rfl (WL.move rfl rfl (?_))))))))
            refine WL.pass rfl rfl rfl rfl (WL.pass rfl rfl rfl rfl (WL.pass rfl rfl rfl rfl (WL.pickF rfl rfl rfl (WL.move rfl rfl (WL.pass rfl rfl rfl rfl (WL.pass rfl rfl rfl rfl (WL.pass rfl rfl rfl rfl (?_))))))))
            refine WL.pass rfl rfl rfl rfl (WL.pass rfl rfl rfl rfl (WL.pass rfl rfl rfl rfl (WL.pickF rfl rfl rfl (WL.assign rfl rfl (WL.nil (WX.then_normal (WC.ret (?_))))))))
            refine WX.ret1 (.inl rfl) Try.results6 rfl ?_
            have hg0 : grp m.toNat = 0 := by rw [show m.toNat = 0 from by omega]; exact grp_zero
            first
              | (refine ⟨_, rfl, ?_, hw⟩; exact congrArg Value.bool (decide_eq_true rfl))
              | (exfalso; exact h46 rfl)
              | (exfalso; exact h49 rfl)
              | (exfalso; exact h53 rfl)
              | (exfalso; omega)
              | (exfalso; exact h70 rfl)
        ·
          refine WL.pickT rfl rfl rfl (WL.move rfl rfl (WL.pass rfl rfl rfl rfl (WL.pass rfl rfl rfl rfl (WL.pass rfl rfl rfl rfl (WL.pass rfl rfl rfl rfl (WL.pickF rfl rfl rfl (WL.move rfl rfl (?_))))))))
          refine WL.pass rfl rfl rfl rfl (WL.pass rfl rfl rfl rfl (WL.pass rfl rfl rfl rfl (WL.pass rfl rfl rfl rfl (WL.pickF rfl rfl rfl (WL.move rfl rfl (WL.pass rfl rfl rfl rfl (WL.pass rfl rfl rfl rfl (?_))))))))
          refine WL.pass rfl rfl rfl rfl (WL.pickF rfl rfl rfl (WL.move rfl rfl (WL.pass rfl rfl rfl rfl (WL.pass rfl rfl rfl rfl (WL.pass rfl rfl rfl rfl (WL.pass rfl rfl rfl rfl (WL.pass rfl rfl rfl rfl (?_))))))))
          refine WL.pass rfl rfl rfl rfl (WL.pickF rfl rfl rfl (WL.assign rfl rfl (WL.nil (WX.then_normal (WC.ret (?_))))))
          refine WX.ret1 (.inl rfl) Try.results6 rfl ?_
          have hg0 : grp m.toNat = 0 := by rw [show m.toNat = 0 from by omega]; exact grp_zero
          first
            | (refine ⟨_, rfl, ?_, hw⟩; exact congrArg Value.bool (decide_eq_true rfl))
            | (exfalso; exact h46 rfl)
            | (exfalso; exact h49 rfl)
            | (exfalso; exact h53 rfl)
            | (exfalso; omega)
            | (exfalso; exact h70 rfl)
      ·
        refine WL.pickT rfl rfl rfl (WL.move rfl rfl (WL.pass rfl rfl rfl rfl (WL.pass rfl rfl rfl rfl (WL.pickF rfl rfl rfl (WL.move rfl rfl (WL.pass rfl rfl rfl rfl (WL.pass rfl rfl rfl rfl (?_))))))))
        refine WL.pass rfl rfl rfl rfl (WL.pass rfl rfl rfl rfl (WL.pickF rfl rfl rfl (WL.move rfl rfl (WL.pass rfl rfl rfl rfl (WL.pass rfl rfl rfl rfl (WL.pass rfl rfl rfl rfl (WL.pass rfl rfl rfl rfl (?_))))))))
        refine WL.pickF rfl rfl rfl (WL.move rfl rfl (WL.pass rfl rfl rfl rfl (WL.pass rfl rfl rfl rfl (WL.pass rfl rfl rfl rfl (WL.pickF rfl rfl rfl (WL.move rfl rfl (WL.pass rfl rfl rfl rfl (?_))))))))
        refine WL.pass rfl rfl rfl rfl (WL.pass rfl rfl rfl rfl (WL.pass rfl rfl rfl rfl (WL.pass rfl rfl rfl rfl (WL.pass rfl rfl rfl rfl (WL.pickF rfl rfl rfl (WL.assign rfl rfl (WL.nil (?_))))))))
        refine WX.then_normal (WC.ret (?_))
        refine WX.ret1 (.inl rfl) Try.results6 rfl ?_
        have hg0 : grp m.toNat = 0 := by rw [show m.toNat = 0 from by omega]; exact grp_zero
        first
          | (refine ⟨_, rfl, ?_, hw⟩; exact congrArg Value.bool (decide_eq_true rfl))
          | (exfalso; exact h46 rfl)
          | (exfalso; exact h49 rfl)
          | (exfalso; exact h53 rfl)
          | (exfalso; omega)
          | (exfalso; exact h70 rfl)
    ·
      refine WL.move rfl rfl (WL.pass rfl rfl rfl rfl (WL.pass rfl rfl rfl rfl (WL.pickF rfl rfl rfl (WL.move rfl rfl (WL.pass rfl rfl rfl rfl (WL.pass rfl rfl rfl rfl (WL.pickF rfl rfl rfl (?_))))))))
      refine WL.move rfl rfl (WL.pass rfl rfl rfl rfl (WL.pass rfl rfl rfl rfl (WL.pass rfl rfl rfl rfl (WL.pass rfl rfl rfl rfl (WL.pickF rfl rfl rfl (WL.move rfl rfl (WL.pass rfl rfl rfl rfl (?_))))))))
      refine WL.pass rfl rfl rfl rfl (WL.pass rfl rfl rfl rfl (WL.pass rfl rfl rfl rfl (WL.pickF rfl rfl rfl (WL.move rfl rfl (WL.pass rfl rfl rfl rfl (WL.pass rfl rfl rfl rfl (WL.pass rfl rfl rfl rfl (?_))))))))
      refine WL.pickF rfl rfl rfl (WL.move rfl rfl (WL.pass rfl rfl rfl rfl (WL.pass rfl rfl rfl rfl (WL.pass rfl rfl rfl rfl (WL.pass rfl rfl rfl rfl (WL.pass rfl rfl rfl rfl (WL.pass rfl rfl rfl rfl (?_))))))))
      refine WL.pickF rfl rfl rfl (WL.assign rfl rfl (WL.nil (WX.then_normal (WC.ret (?_)))))
      refine WX.ret1 (.inl rfl) Try.results6 rfl ?_
      have hg0 : grp m.toNat = 0 := by rw [show m.toNat = 0 from by omega]; exact grp_zero
      first
        | (refine ⟨_, rfl, ?_, hw⟩; exact congrArg Value.bool (decide_eq_true rfl))
        | (exfalso; exact h46 rfl)
        | (exfalso; exact h49 rfl)
        | (exfalso; exact h53 rfl)
        | (exfalso; omega)
        | (exfalso; exact h70 rfl)
end Go.Proofs.Ytfkaioldfmapjaa
