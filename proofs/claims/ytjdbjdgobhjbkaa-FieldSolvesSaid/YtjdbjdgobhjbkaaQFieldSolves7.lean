import Derived.Test.YtjdbjdgobhjbkaaQFieldSolves6
namespace Go.HL
theorem cut_getD {xs : List UInt8} {k : Nat} (hk : k < xs.length) (j : Nat) : (xs.take k ++ xs.drop (k + 1)).getD j 0 = xs.getD (sk k j) 0 := by
  have e : (xs.take k ++ xs.drop (k + 1))[j]? = xs[sk k j]? := by
    rcases Nat.lt_or_ge j k with h | h
    · rw [sk_lt h, List.getElem?_append_left (by simp; omega), List.getElem?_take_of_lt h]
    · rw [sk_ge h, List.getElem?_append_right (by simp; omega), List.getElem?_drop, List.length_take]
      congr 1
      omega
  rw [List.getD_eq_getElem?_getD, e, ← List.getD_eq_getElem?_getD]
/-- by determinants: one solution, or more than 0 is sent to 0 -/
theorem det_sol {n : Nat} {M : Nat → Nat → UInt8} {r : Nat → UInt8} (hd : det n M ≠ 0) (z : Nat → UInt8) : (∀ i, i < n → sumF n (fun j => mul (M i j) (z j)) = r i) ↔ ∀ i, i < n → z i = mul (inv (det n M)) (det n (setc M i r)) := by
  have one : ∀ z : Nat → UInt8, (∀ i, i < n → sumF n (fun j => mul (M i j) (z j)) = r i) → ∀ i, i < n → z i = mul (inv (det n M)) (det n (setc M i r)) := fun z hz i hi => by
    rw [cramer hi hz, mul_comm (z i), mul_assoc, mul_comm (inv _), mul_inv hd, one_mul']
  refine ⟨one z, fun hz => ?_⟩
  rcases gauss n (fun i j => if j < n then M i j else r i) with ⟨x, hx⟩ | ⟨y, ⟨j, hj, hy⟩, hK⟩
  · have hx' : ∀ i, i < n → sumF n (fun j => mul (M i j) (x j)) = r i := fun i hi => by
      have h1 := hx i hi
      simp only [Nat.lt_irrefl, if_false] at h1
      rw [← h1]
      refine sumF_cong (fun j hj => ?_)
      rw [if_pos hj]
    have h2 := one x hx'
    intro i hi
    rw [← hx' i hi]
    exact sumF_cong (fun j hj => by rw [hz j hj, h2 j hj])
  · refine absurd (det_ker (M := M) (y := y) (fun i hi => ?_) hj hy) hd
    rw [← hK i hi]
    refine sumF_cong (fun j hj => ?_)
    show _ = mul (if j < n then M i j else _) (y j)
    rw [if_pos hj]
theorem det_miss {n : Nat} {M : Nat → Nat → UInt8} (hd : det n M = 0) : ∃ y : Nat → UInt8, (∃ j, j < n ∧ y j ≠ 0) ∧ Ker n n M y :=
  Classical.byContradiction fun h => det_inj (M := M) (fun y hy j hj => Classical.byContradiction fun h2 => h ⟨y, ⟨j, hj, h2⟩, hy⟩) hd
end Go.HL
namespace Go.Proofs.Ytjdbjdgobhjbkaa
open Go.RowKit Go.HL

theorem refInv_calls (a : UInt8) (w : World) : Calls Try.prog 26 [v8 a].toArray w (Ret fun v w' => v = .tuple #[v8 (inv a), vi (if a = 0 then 1 else 0)] ∧ Chg Nob w w') := by
  have hw := Chg.refl Nob w
  refine Calls.of_WC Try.func26 rfl Try.ntmps26 (by simp) ?_
  refine WC.seq (WC.region (WL.assign rfl rfl (WL.assign rfl rfl (WL.nil (WX.then_normal (WC.seq (WC.seq (?_))))))))
  refine WC.region (WL.assign rfl rfl (WL.nil (WX.then_normal (WC.block (?_)))))
  refine WC.loop (σ := Nat) (fun x => [(0, v8 a), (4, vi x)])
    (fun x w' => 1 ≤ x ∧ x ≤ 256 ∧ (∀ y : Nat, 1 ≤ y → y < x → mul a (UInt8.ofNat y) ≠ 1) ∧ Chg Nob w w') (fun x => 256 - x) 1 ⟨rfl, rfl, trivial⟩ ⟨Nat.le_refl _, by decide, fun y h1 h2 => absurd h2 (by omega), hw⟩ ?_
  clear hw
  rintro x w2 ⟨hx1, hx, hall, hw⟩
  refine WC.seq (WC.seq (WC.region (WL.move rfl rfl (?_))))
  refine WL.lss? rfl rfl rfl (fun h6 => ?_) (fun h6 => ?_)
  ·
    refine WL.nil (WX.then_normal (WC.cond_true rfl (WC.skip (WX.then_normal (WC.seq (WC.block (WC.seq (?_))))))))
    refine WC.region (WL.move rfl rfl (WL.move rfl rfl (?_)))
    refine WL.c_i64_u8 Try.underlying3 Try.underlying5 rfl rfl ?_
    rw [b8X (show x < 256 by omega)]
    refine WL.call eg_27 rfl rfl (refMul_calls a (UInt8.ofNat x) _) ?_
    rintro v w1 ⟨rfl, k⟩
    have zs_k := k.size
    replace hw := hw.pure k
    refine WL.eql? rfl rfl rfl (fun h13 => ?_) (fun h13 => ?_)
    ·
      refine WL.nil (WX.then_normal (WC.cond_true rfl (WC.seq (WC.region (WL.move rfl rfl (?_))))))
      refine WL.c_i64_u8 Try.underlying3 Try.underlying5 rfl rfl ?_
      rw [b8X (show x < 256 by omega)]
      refine WL.assign rfl rfl (WL.assign rfl rfl (WL.nil (WX.then_normal (WC.ret (WX.block_ret (WX.then_ret (WX.then_ret (?_))))))))
      refine WX.block_ret (WX.then_ret (?_))
      refine WX.ret2 (.inl rfl) Try.results26 rfl rfl ?_
      first
        | (have h1 : mul a (UInt8.ofNat x) = 1 := UInt8.toNat_inj.1 (Int.ofNat.inj h13)
           obtain ⟨h2, h3⟩ := inv_only h1
           refine ⟨_, rfl, ?_, hw⟩
           rw [h3, if_neg h2])
        | (have ha : a = 0 := Classical.byContradiction fun h => by
             have h1 : inv a ≠ 0 := fun e => by
               have h2 := mul_inv h
               rw [e, mul_zero_r] at h2
               exact absurd h2 (by decide)
             have h3 := (inv a).toNat_lt
             have h4 : (inv a).toNat ≠ 0 := fun e => h1 (UInt8.toNat_inj.1 e)
             exact hall (inv a).toNat (by omega) (by omega) (by rw [UInt8.ofNat_toNat]; exact mul_inv h)
           subst ha
           exact ⟨_, rfl, rfl, hw⟩)
    ·
      refine WL.nil (WX.then_normal (WC.cond_false rfl (WC.skip (WX.block_normal (WX.then_normal (WC.region (WL.move rfl rfl (?_))))))))
      refine WL.add64 rfl rfl (by first | omega | (constructor <;> omega)) rfl (WL.assign rfl rfl (WL.nil (?_)))
      refine WX.loop_next (x + 1) ⟨rfl, rfl, trivial⟩ ⟨by omega, by omega, fun y h1 h2 => ?_, hw⟩ (by show _ - _ < _ - _; omega)
      rcases Nat.lt_or_ge y x with h3 | h3
      ·
        exact hall y h1 h3
      ·
        rw [show y = x from by omega]
        exact fun e => h13 (by rw [e]; rfl)
  ·
    refine WL.nil (WX.then_normal (WC.cond_false rfl (WC.exit (WX.then_exit (WX.then_exit (WX.block_here (WX.then_normal (?_))))))))
    refine WC.seq (WC.region (WL.assign rfl rfl (WL.assign rfl rfl (WL.nil (WX.then_normal (WC.ret (?_)))))))
    refine WX.ret2 (.inl rfl) Try.results26 rfl rfl ?_
    first
      | (have h1 : mul a (UInt8.ofNat x) = 1 := UInt8.toNat_inj.1 (Int.ofNat.inj h13)
         obtain ⟨h2, h3⟩ := inv_only h1
         refine ⟨_, rfl, ?_, hw⟩
         rw [h3, if_neg h2])
      | (have ha : a = 0 := Classical.byContradiction fun h => by
           have h1 : inv a ≠ 0 := fun e => by
             have h2 := mul_inv h
             rw [e, mul_zero_r] at h2
             exact absurd h2 (by decide)
           have h3 := (inv a).toNat_lt
           have h4 : (inv a).toNat ≠ 0 := fun e => h1 (UInt8.toNat_inj.1 e)
           exact hall (inv a).toNat (by omega) (by omega) (by rw [UInt8.ofNat_toNat]; exact mul_inv h)
         subst ha
         exact ⟨_, rfl, rfl, hw⟩)
theorem Right_calls {S : Nat → Prop} {w : World} {c cr : Nat} {ao ar : Option Addr} {rs : List Rw} {rgt : List UInt8} (h : RS S w ao c rs) (hl1 : rs.length ≤ 9223372036854775807) :
    Calls Try.prog 24 [.slice ao rs.length c, .slice ar rgt.length cr].toArray w (Ret fun v w' => (∃ b : Bool, v = .bool b ∧ (b = true ↔ ShapeOk (mx rs) rgt)) ∧ Chg Nob w w') := by
  have hw := Chg.refl Nob w
  have hml := mx_len rs
  refine Calls.of_WC Try.func24 rfl Try.ntmps24 (by simp) ?_
  refine WC.seq (WC.region (WL.assign rfl rfl (WL.nil (WX.then_normal (WC.seq (WC.region (WL.move rfl rfl (?_))))))))
  refine WL.len Try.underlying22 rfl rfl (WL.assign rfl rfl (WL.nil (WX.then_normal (WC.seq (WC.seq (WC.region (WL.move rfl rfl (?_))))))))
  refine WL.lss? rfl rfl rfl (fun h10 => ?_) (fun h10 => ?_)
  ·
    refine WL.move rfl rfl (WL.pass rfl rfl rfl rfl (WL.pass rfl rfl rfl rfl (WL.pickT rfl rfl rfl (WL.move rfl rfl (WL.pass rfl rfl rfl rfl (WL.pass rfl rfl rfl rfl (WL.pass rfl rfl rfl rfl (?_))))))))
    refine WL.pass rfl rfl rfl rfl (WL.pickT rfl rfl rfl (WL.nil (WX.then_normal (WC.cond_true rfl (WC.seq (WC.region (WL.assign rfl rfl (?_))))))))
    refine WL.nil (WX.then_normal (WC.ret (WX.then_ret (?_))))
    refine WX.ret1 (.inl rfl) Try.results24 rfl ?_
    first
      | (refine ⟨_, rfl, ⟨false, rfl, (fun h => by cases h), fun hs => ?_⟩, hw⟩
         have hs1 := hs.1
         have hs2 := hs.2.1
         rw [hml] at hs1 hs2
         exfalso
         omega)
      | (refine ⟨_, rfl, ⟨false, rfl, (fun h => by cases h), fun hs => ?_⟩, hw⟩
         have hs3 := hs.2.2 r.xs (List.mem_map.2 ⟨r, List.mem_of_getElem? hri, rfl⟩)
         rw [hml] at hs3
         exfalso
         omega)
      | (refine ⟨_, rfl, ⟨true, rfl, fun _ => ⟨by rw [hml]; omega, by rw [hml]; omega, fun z hz => ?_⟩, fun _ => rfl⟩, hw⟩
         obtain ⟨j, hj, rfl⟩ := List.getElem_of_mem hz
         have hj2 : j < rs.length := by rw [← hml]; exact hj
         rw [hml, ← hall j _ (by omega) (List.getElem?_eq_getElem hj2)]
         simp [mx])
  ·
    refine WL.move rfl rfl (WL.want rfl rfl rfl (WL.move rfl rfl (WL.want rfl rfl rfl (?_))))
    refine WL.gtr? rfl rfl rfl (fun h13 => ?_) (fun h13 => ?_)
    ·
      refine WL.pickF rfl rfl rfl (WL.move rfl rfl (WL.pass rfl rfl rfl rfl (WL.pass rfl rfl rfl rfl (WL.pass rfl rfl rfl rfl (WL.pass rfl rfl rfl rfl (WL.pickT rfl rfl rfl (WL.nil (?_))))))))
      refine WX.then_normal (WC.cond_true rfl (WC.seq (WC.region (WL.assign rfl rfl (WL.nil (WX.then_normal (WC.ret (?_))))))))
      refine WX.then_ret (?_)
      refine WX.ret1 (.inl rfl) Try.results24 rfl ?_
      first
        | (refine ⟨_, rfl, ⟨false, rfl, (fun h => by cases h), fun hs => ?_⟩, hw⟩
           have hs1 := hs.1
           have hs2 := hs.2.1
           rw [hml] at hs1 hs2
           exfalso
           omega)
        | (refine ⟨_, rfl, ⟨false, rfl, (fun h => by cases h), fun hs => ?_⟩, hw⟩
           have hs3 := hs.2.2 r.xs (List.mem_map.2 ⟨r, List.mem_of_getElem? hri, rfl⟩)
           rw [hml] at hs3
           exfalso
           omega)
        | (refine ⟨_, rfl, ⟨true, rfl, fun _ => ⟨by rw [hml]; omega, by rw [hml]; omega, fun z hz => ?_⟩, fun _ => rfl⟩, hw⟩
           obtain ⟨j, hj, rfl⟩ := List.getElem_of_mem hz
           have hj2 : j < rs.length := by rw [← hml]; exact hj
           rw [hml, ← hall j _ (by omega) (List.getElem?_eq_getElem hj2)]
           simp [mx])
    ·
      refine WL.pickF rfl rfl rfl (WL.move rfl rfl (WL.want rfl rfl rfl (WL.move rfl rfl (WL.want rfl rfl rfl (WL.len Try.underlying23 rfl rfl (WL.want rfl rfl rfl (WL.move rfl rfl (?_))))))))
      refine WL.want rfl rfl rfl (?_)
      refine WL.neq? rfl rfl rfl (fun h19 => ?_) (fun h19 => ?_)
      ·
        refine WL.pickF rfl rfl rfl (WL.nil (WX.then_normal (WC.cond_true rfl (WC.seq (WC.region (WL.assign rfl rfl (WL.nil (?_))))))))
        refine WX.then_normal (WC.ret (WX.then_ret (?_)))
        refine WX.ret1 (.inl rfl) Try.results24 rfl ?_
        first
          | (refine ⟨_, rfl, ⟨false, rfl, (fun h => by cases h), fun hs => ?_⟩, hw⟩
             have hs1 := hs.1
             have hs2 := hs.2.1
             rw [hml] at hs1 hs2
             exfalso
             omega)
          | (refine ⟨_, rfl, ⟨false, rfl, (fun h => by cases h), fun hs => ?_⟩, hw⟩
             have hs3 := hs.2.2 r.xs (List.mem_map.2 ⟨r, List.mem_of_getElem? hri, rfl⟩)
             rw [hml] at hs3
             exfalso
             omega)
          | (refine ⟨_, rfl, ⟨true, rfl, fun _ => ⟨by rw [hml]; omega, by rw [hml]; omega, fun z hz => ?_⟩, fun _ => rfl⟩, hw⟩
             obtain ⟨j, hj, rfl⟩ := List.getElem_of_mem hz
             have hj2 : j < rs.length := by rw [← hml]; exact hj
             rw [hml, ← hall j _ (by omega) (List.getElem?_eq_getElem hj2)]
             simp [mx])
      ·
        refine WL.pickF rfl rfl rfl (WL.nil (WX.then_normal (WC.cond_false rfl (WC.skip (WX.then_normal (WC.seq (WC.seq (?_))))))))
        refine WC.region (WL.assign rfl rfl (WL.nil (WX.then_normal (WC.block (?_)))))
        refine WC.loop (σ := Nat) (fun i => [(0, .slice ao rs.length c), (5, vi rs.length), (6, vi (i : Int))]) (fun i w' => i ≤ rs.length ∧ (∀ j r, j < i → rs[j]? = some r → r.xs.length = rs.length) ∧ RS S w' ao c rs ∧ Chg Nob w w') (fun i => rs.length - i) 0 ⟨rfl, rfl, rfl, trivial⟩ ⟨Nat.zero_le _, fun j r hj => absurd hj (Nat.not_lt_zero j), h, hw⟩ ?_
        clear h hw
        rintro i w1 ⟨hi, hall, h, hw⟩
        refine WC.seq (WC.seq (WC.region (WL.move rfl rfl (WL.move rfl rfl (?_)))))
        refine WL.lss? rfl rfl rfl (fun h23 => ?_) (fun h23 => ?_)
        ·
          refine WL.nil (WX.then_normal (WC.cond_true rfl (WC.skip (WX.then_normal (WC.seq (WC.block (WC.seq (?_))))))))
          refine WC.region (WL.move rfl rfl (WL.move rfl rfl (?_)))
          obtain ⟨r, hri⟩ : ∃ r, rs[i]? = some r := ⟨_, List.getElem?_eq_getElem (by omega)⟩
          refine WL.indexT (e := erow) Try.underlying22 Try.sizeOf23 h.outer rfl rfl ⟨hri, rfl⟩ rfl ?_
          intro bb oo hcc
          refine WL.load Try.isAgg23 rfl (hcc 0 _ rfl) rfl ?_
          refine WL.len Try.underlying23 rfl rfl (WL.move rfl rfl (?_))
          refine WL.neq? rfl rfl rfl (fun h32 => ?_) (fun h32 => ?_)
          ·
            refine WL.nil (WX.then_normal (WC.cond_true rfl (WC.seq (WC.region (WL.assign rfl rfl (WL.nil (WX.then_normal (?_))))))))
            refine WC.ret (WX.block_ret (WX.then_ret (WX.then_ret (WX.block_ret (WX.then_ret (?_))))))
            refine WX.ret1 (.inl rfl) Try.results24 rfl ?_
            first
              | (refine ⟨_, rfl, ⟨false, rfl, (fun h => by cases h), fun hs => ?_⟩, hw⟩
                 have hs1 := hs.1
                 have hs2 := hs.2.1
                 rw [hml] at hs1 hs2
                 exfalso
                 omega)
              | (refine ⟨_, rfl, ⟨false, rfl, (fun h => by cases h), fun hs => ?_⟩, hw⟩
                 have hs3 := hs.2.2 r.xs (List.mem_map.2 ⟨r, List.mem_of_getElem? hri, rfl⟩)
                 rw [hml] at hs3
                 exfalso
                 omega)
              | (refine ⟨_, rfl, ⟨true, rfl, fun _ => ⟨by rw [hml]; omega, by rw [hml]; omega, fun z hz => ?_⟩, fun _ => rfl⟩, hw⟩
                 obtain ⟨j, hj, rfl⟩ := List.getElem_of_mem hz
                 have hj2 : j < rs.length := by rw [← hml]; exact hj
                 rw [hml, ← hall j _ (by omega) (List.getElem?_eq_getElem hj2)]
                 simp [mx])
          ·
            refine WL.nil (WX.then_normal (WC.cond_false rfl (WC.skip (WX.block_normal (WX.then_normal (WC.region (WL.move rfl rfl (?_))))))))
            refine WL.add64 rfl rfl (by first | omega | (constructor <;> omega)) rfl (WL.assign rfl rfl (WL.nil (?_)))
            refine WX.loop_next (i + 1) ⟨rfl, rfl, rfl, trivial⟩ ⟨by omega, fun j r' hj hr' => ?_, h, hw⟩ (by omega)
            rcases Nat.lt_or_ge j i with h1 | h1
            ·
              exact hall j r' h1 hr'
            ·
              rw [show j = i by omega, hri] at hr'
              injection hr' with hr'
              rw [← hr']
              omega
        ·
          refine WL.nil (WX.then_normal (WC.cond_false rfl (WC.exit (WX.then_exit (WX.then_exit (WX.block_here (WX.then_normal (?_))))))))
          refine WC.seq (WC.region (WL.assign rfl rfl (WL.nil (WX.then_normal (WC.ret (?_))))))
          refine WX.ret1 (.inl rfl) Try.results24 rfl ?_
          first
            | (refine ⟨_, rfl, ⟨false, rfl, (fun h => by cases h), fun hs => ?_⟩, hw⟩
               have hs1 := hs.1
               have hs2 := hs.2.1
               rw [hml] at hs1 hs2
               exfalso
               omega)
            | (refine ⟨_, rfl, ⟨false, rfl, (fun h => by cases h), fun hs => ?_⟩, hw⟩
               have hs3 := hs.2.2 r.xs (List.mem_map.2 ⟨r, List.mem_of_getElem? hri, rfl⟩)
               rw [hml] at hs3
               exfalso
               omega)
            | (refine ⟨_, rfl, ⟨true, rfl, fun _ => ⟨by rw [hml]; omega, by rw [hml]; omega, fun z hz => ?_⟩, fun _ => rfl⟩, hw⟩
               obtain ⟨j, hj, rfl⟩ := List.getElem_of_mem hz
               have hj2 : j < rs.length := by rw [← hml]; exact hj
               rw [hml, ← hall j _ (by omega) (List.getElem?_eq_getElem hj2)]
               simp [mx])
set_option maxHeartbeats 8000000 in
theorem Det_calls : ∀ (n : Nat) {S : Nat → Prop} {w : World} {c : Nat} {ao : Option Addr} {rs : List Rw}, rs.length = n → n ≤ 8 → (∀ r ∈ rs, r.xs.length = n) → RS S w ao c rs →
    Calls Try.prog 25 [.slice ao rs.length c].toArray w (Ret fun v w' => v = v8 (det n (fn (mx rs))) ∧ Chg Nob w w') := by
  intro n
  induction n using Nat.strongRecOn with
  | _ n ih =>
  intro S w c ao rs hn hn8 hrl h
  have hw := Chg.refl Nob w
  replace h := h.old
  refine Calls.of_WC Try.func25 rfl Try.ntmps25 (by simp) ?_
  refine WC.seq (WC.region (WL.assign rfl rfl (WL.nil (WX.then_normal (WC.seq (WC.seq (WC.region (?_))))))))
  refine WL.move rfl rfl (WL.len Try.underlying22 rfl rfl (?_))
  refine WL.eql? rfl rfl rfl (fun h9 => ?_) (fun h9 => ?_)
  ·
    refine WL.nil (WX.then_normal (WC.cond_true rfl (WC.seq (WC.region (WL.assign rfl rfl (WL.nil (WX.then_normal (?_))))))))
    refine WC.ret (WX.then_ret (?_))
    refine WX.ret1 (.inl rfl) Try.results25 rfl ?_
    first
      | (have h0 : n = 0 := by omega
         subst h0
         exact ⟨_, rfl, rfl, hw⟩)
      | (have hkm : k = m + 1 := by omega
         subst hkm
         refine ⟨_, rfl, ?_, hw⟩
         rw [det, hD])
  ·
    refine WL.nil (WX.then_normal (WC.cond_false rfl (WC.skip (WX.then_normal (WC.seq (WC.region (WL.assign rfl rfl (?_))))))))
    refine WL.nil (WX.then_normal (WC.seq (WC.seq (WC.region (WL.assign rfl rfl (WL.nil (WX.then_normal (?_))))))))
    refine WC.block (?_)
    obtain ⟨m, rfl⟩ : ∃ m, n = m + 1 := ⟨n - 1, by omega⟩
    obtain ⟨D, hD⟩ : ∃ D : Nat → UInt8, D = fun k => mul (fn (mx rs) 0 k) (det m (minor (fn (mx rs)) k)) := ⟨_, rfl⟩
    refine WC.loop (σ := Nat) (fun k => [(0, .slice ao rs.length c), (3, v8 (sumF k D)), (4, vi (k : Int))]) (fun k w' => k ≤ m + 1 ∧ RS (· < w.heap.size) w' ao c rs ∧ Chg Nob w w') (fun k => m + 1 - k) 0 ⟨rfl, rfl, rfl, trivial⟩ ⟨Nat.zero_le _, h, hw⟩ ?_
    clear h hw
    rintro k w1 ⟨hk, h, hw⟩
    refine WC.seq (WC.seq (WC.region (WL.move rfl rfl (WL.move rfl rfl (WL.len Try.underlying22 rfl rfl (?_))))))
    refine WL.lss? rfl rfl rfl (fun h13 => ?_) (fun h13 => ?_)
    ·
      refine WL.nil (WX.then_normal (WC.cond_true rfl (WC.skip (WX.then_normal (WC.seq (WC.block (WC.seq (?_))))))))
      refine WC.seq (WC.region (WL.move rfl rfl (?_)))
      obtain ⟨r0, hr0⟩ : ∃ r, rs[0]? = some r := ⟨_, List.getElem?_eq_getElem (by omega)⟩
      have hr0l := hrl r0 (List.mem_of_getElem? hr0)
      obtain ⟨x, hx⟩ : ∃ x, r0.xs[k]? = some x := ⟨_, List.getElem?_eq_getElem (by omega)⟩
      have hfx : fn (mx rs) 0 k = x := by rw [fn_mx hr0, List.getD_eq_getElem?_getD, hx]; rfl
      refine WL.indexT (e := erow) (j := 0) Try.underlying22 Try.sizeOf23 h.outer rfl rfl ⟨hr0, rfl⟩ rfl ?_
      intro bb oo hcc
      refine WL.load Try.isAgg23 rfl (hcc 0 _ rfl) rfl ?_
      refine WL.move rfl rfl (?_)
      refine WL.indexT (e := eb) Try.underlying23 Try.sizeOf5 (h.at hr0) rfl rfl ⟨hx, rfl⟩ rfl ?_
      intro bb2 oo2 hcc2
      refine WL.load Try.isAgg5 rfl (hcc2 0 _ rfl) rfl ?_
      refine WL.eql? rfl rfl rfl (fun h22 => ?_) (fun h22 => ?_)
      ·
        refine WL.nil (WX.then_normal (WC.cond_true rfl (WC.exit (WX.then_exit (WX.block_here (WX.then_normal (WC.region (?_))))))))
        refine WL.move rfl rfl (WL.add64 rfl rfl (by first | omega | (constructor <;> omega)) rfl (WL.assign rfl rfl (WL.nil (?_))))
        first
          | exact WX.loop_next (i + 1, a15, c15, _, ms ++ [⟨a14, c14, r.xs.take k ++ r.xs.drop (k + 1)⟩]) ⟨rfl, rfl, rfl, rfl, rfl, trivial⟩ ⟨by show i + 1 ≤ m; omega, ⟨by show (ms ++ [_]).length = _; simp [hmsl], fun j r' z hr' hz => (by
              rcases get_snoc hz with h1 | ⟨h1, h2⟩
              ·
                exact hms j r' z hr' h1
              ·
                subst h2
                rw [h1, hmsl, hri] at hr'
                injection hr' with hr'
                rw [← hr'])⟩, hC15, ⟨hz15, by show w15.heap.size ≤ _; omega⟩, h, hw⟩ (by show m - (i + 1) < m - i; omega)
          | (have hx0 : x = 0 := u8_zero h22
             exact WX.loop_next (k + 1) ⟨rfl, by rw [sumF, show D k = 0 by rw [hD]; show mul (fn (mx rs) 0 k) _ = 0; rw [hfx, hx0, mul_zero_l], xor_zero']; rfl, rfl, trivial⟩ ⟨by omega, h, hw⟩ (by omega))
          | exact WX.loop_next (k + 1) ⟨rfl, by rw [sumF, show D k = mul x (det i (minor (fn (mx rs)) k)) by rw [hD, ← hfx]]; rfl, rfl, trivial⟩ ⟨by omega, h, hw⟩ (by omega)
      ·
        refine WL.nil (WX.then_normal (WC.cond_false rfl (WC.skip (WX.then_normal (WC.seq (WC.region (WL.assign rfl rfl (?_))))))))
        refine WL.nil (WX.then_normal (WC.seq (WC.seq (WC.region (WL.assign rfl rfl (WL.nil (WX.then_normal (?_))))))))
        refine WC.block (?_)
        have zw1 := hw.size
        refine WC.loop (σ := Nat × (Option Addr × Nat × Nat × List Rw)) (fun q => [(0, .slice ao rs.length c), (3, v8 (sumF k D)), (4, vi (k : Int)), (5, .slice q.2.1 q.2.2.2.2.length q.2.2.1), (6, vi ((q.1 : Int) + 1))])
          (fun q w' => q.1 ≤ m ∧ (q.2.2.2.2.length = q.1 ∧ ∀ j r z, rs[j + 1]? = some r → q.2.2.2.2[j]? = some z → z.xs = r.xs.take k ++ r.xs.drop (k + 1)) ∧ CR w.heap.size q.2.2.2.1 w' 23 q.2.1 q.2.2.1 q.2.2.2.2 ∧ (w.heap.size ≤ q.2.2.2.1 ∧ q.2.2.2.1 ≤ w'.heap.size) ∧ RS (· < w.heap.size) w' ao c rs ∧ Chg Nob w w') (fun q => m - q.1) (0, none, 0, w.heap.size, []) ⟨rfl, rfl, rfl, rfl, rfl, trivial⟩ ⟨Nat.zero_le _, ⟨rfl, fun j r z _ hz => by simp at hz⟩, CR.nil _ _ _ _, ⟨Nat.le_refl _, zw1⟩, h, hw⟩ ?_
        clear h hw
        rintro ⟨i, am, cm, n1, ms⟩ w2 ⟨hi, ⟨hmsl, hms⟩, hC, ⟨hwn, hn1⟩, h, hw⟩
        simp only at hi hmsl hms hC hwn hn1
        dsimp only
        refine WC.seq (WC.seq (WC.region (WL.move rfl rfl (WL.move rfl rfl (WL.len Try.underlying22 rfl rfl (?_))))))
        refine WL.lss? rfl rfl rfl (fun h26 => ?_) (fun h26 => ?_)
        ·
          refine WL.nil (WX.then_normal (WC.cond_true rfl (WC.skip (WX.then_normal (WC.seq (WC.block (?_)))))))
          obtain ⟨r, hri⟩ : ∃ r, rs[i + 1]? = some r := ⟨_, List.getElem?_eq_getElem (by omega)⟩
          have hril := hrl r (List.mem_of_getElem? hri)
          obtain ⟨ob, oo3, ho⟩ := h.outer.place hri
          have e8 : (r.xs.take k).drop 0 = r.xs.take k := List.drop_zero
          have e13 : (r.xs.take r.xs.length).drop (k + 1) = r.xs.drop (k + 1) := by rw [List.take_length]
          have hrow := h.at hri
          have h8 := hrow.cut 0 k ⟨Nat.zero_le _, by omega⟩
          have h13 := hrow.cut (k + 1) r.xs.length ⟨by omega, Nat.le_refl _⟩
          rw [e8] at h8
          rw [e13] at h13
          have hl8 : (r.xs.take k).length ≤ 1000 := by simp; omega
          have hl13 : (r.xs.drop (k + 1)).length ≤ 1000 := by simp; omega
          refine WC.draw ((fun x => w.heap.size ≤ x)) [0, 2, 3, 4, 5, 6, 7, 9, 10, 11, 12, 13, 14, 15] [1, 8, 16, 17, 18, 19] mixed rfl rfl (fun wd_1 kd_1 zd_1 => ?_)
          have zs_kd_1 := kd_1.size
          replace hC := hC.pure kd_1
          replace h := h.pure kd_1
          replace hw := hw.pure kd_1
          replace hrow := hrow.pure kd_1
          replace h8 := h8.pure kd_1
          replace h13 := h13.pure kd_1
          apply DQ.step (E' := [(5, _)])
          case ho => rfl
          case hs => exact ⟨rfl, trivial⟩
          case hk => rfl
          case h1 =>
            intro wq_3 kq_3
            refine WL.move rfl rfl (?_)
            refine WL.nil ?_
            exact WX.one ⟨rfl, by first | exact Chg.refl _ _ | assumption⟩
          apply DQ.step (E' := [(0, _)])
          case ho => rfl
          case hs => exact ⟨rfl, trivial⟩
          case hk => rfl
          case h1 =>
            intro wq_4 kq_4
            refine WL.move rfl rfl (?_)
            refine WL.nil ?_
            exact WX.one ⟨rfl, by first | exact Chg.refl _ _ | assumption⟩
          apply DQ.step (E' := [(6, _)])
          case ho => rfl
          case hs => exact ⟨rfl, trivial⟩
          case hk => rfl
          case h1 =>
            intro wq_5 kq_5
            refine WL.move rfl rfl (?_)
            refine WL.nil ?_
            exact WX.one ⟨rfl, by first | exact Chg.refl _ _ | assumption⟩
          apply DQ.step (E' := [(31, _), (32, _)])
          case ho => rfl
          case hs => exact ⟨rfl, rfl, trivial⟩
          case hk => rfl
          case h1 =>
            intro wq_6 kq_6
            have zs_kq_6 := kq_6.size
            replace h := h.chg kq_6 (by first | (intro x h1 h2; exact h2) | (intro x h1 h2; have h3 : _ = _ := h2; exfalso; omega) | (intro b h1 h2 h3; have h4 : _ = _ := h3; (try dsimp only at h2); exfalso; omega) | (intro h1; have h2 : _ = _ := h1; exfalso; omega) | (intros; exfalso; (try dsimp only at *); omega) | (intro b h1 h2 h3; exfalso; have h4 := h3.2; (try dsimp only at *); omega) | (intro h1; exfalso; have h4 := h1.2; (try dsimp only at *); omega))
            replace hw := hw.chg kq_6 (by first | (intro x h1 h2; exact h2) | (intro x h1 h2; have h3 : _ = _ := h2; exfalso; omega) | (intro b h1 h2 h3; have h4 : _ = _ := h3; (try dsimp only at h2); exfalso; omega) | (intro h1; have h2 : _ = _ := h1; exfalso; omega) | (intros; exfalso; (try dsimp only at *); omega) | (intro b h1 h2 h3; exfalso; have h4 := h3.2; (try dsimp only at *); omega) | (intro h1; exfalso; have h4 := h1.2; (try dsimp only at *); omega))
            replace hrow := hrow.chg kq_6 (by first | (intro x h1 h2; exact h2) | (intro x h1 h2; have h3 : _ = _ := h2; exfalso; omega) | (intro b h1 h2 h3; have h4 : _ = _ := h3; (try dsimp only at h2); exfalso; omega) | (intro h1; have h2 : _ = _ := h1; exfalso; omega) | (intros; exfalso; (try dsimp only at *); omega) | (intro b h1 h2 h3; exfalso; have h4 := h3.2; (try dsimp only at *); omega) | (intro h1; exfalso; have h4 := h1.2; (try dsimp only at *); omega))
            replace h8 := h8.chg kq_6 (by first | (intro x h1 h2; exact h2) | (intro x h1 h2; have h3 : _ = _ := h2; exfalso; omega) | (intro b h1 h2 h3; have h4 : _ = _ := h3; (try dsimp only at h2); exfalso; omega) | (intro h1; have h2 : _ = _ := h1; exfalso; omega) | (intros; exfalso; (try dsimp only at *); omega) | (intro b h1 h2 h3; exfalso; have h4 := h3.2; (try dsimp only at *); omega) | (intro h1; exfalso; have h4 := h1.2; (try dsimp only at *); omega))
            replace h13 := h13.chg kq_6 (by first | (intro x h1 h2; exact h2) | (intro x h1 h2; have h3 : _ = _ := h2; exfalso; omega) | (intro b h1 h2 h3; have h4 : _ = _ := h3; (try dsimp only at h2); exfalso; omega) | (intro h1; have h2 : _ = _ := h1; exfalso; omega) | (intros; exfalso; (try dsimp only at *); omega) | (intro b h1 h2 h3; exfalso; have h4 := h3.2; (try dsimp only at *); omega) | (intro h1; exfalso; have h4 := h1.2; (try dsimp only at *); omega))
            have hO := h.outer
            rw [ho] at hO
            refine WL.indexC (e := erow) hO Try.underlying22 Try.sizeOf23 (by show some (Value.slice ao _ _) = _; rw [ho]) rfl ⟨hri, by omega⟩ rfl ?_
            refine WL.nil ?_
            exact WX.one ⟨rfl, by first | exact Chg.refl _ _ | assumption⟩
          apply DQ.step (E' := [(33, _)])
          case ho => rfl
          case hs => exact ⟨rfl, trivial⟩
          case hk => rfl
          case h1 =>
            intro wq_7 kq_7
            have zs_kq_7 := kq_7.size
            replace h := h.chg kq_7 (by first | (intro x h1 h2; exact h2) | (intro x h1 h2; have h3 : _ = _ := h2; exfalso; omega) | (intro b h1 h2 h3; have h4 : _ = _ := h3; (try dsimp only at h2); exfalso; omega) | (intro h1; have h2 : _ = _ := h1; exfalso; omega) | (intros; exfalso; (try dsimp only at *); omega) | (intro b h1 h2 h3; exfalso; have h4 := h3.2; (try dsimp only at *); omega) | (intro h1; exfalso; have h4 := h1.2; (try dsimp only at *); omega))
            replace hw := hw.chg kq_7 (by first | (intro x h1 h2; exact h2) | (intro x h1 h2; have h3 : _ = _ := h2; exfalso; omega) | (intro b h1 h2 h3; have h4 : _ = _ := h3; (try dsimp only at h2); exfalso; omega) | (intro h1; have h2 : _ = _ := h1; exfalso; omega) | (intros; exfalso; (try dsimp only at *); omega) | (intro b h1 h2 h3; exfalso; have h4 := h3.2; (try dsimp only at *); omega) | (intro h1; exfalso; have h4 := h1.2; (try dsimp only at *); omega))
            replace hrow := hrow.chg kq_7 (by first | (intro x h1 h2; exact h2) | (intro x h1 h2; have h3 : _ = _ := h2; exfalso; omega) | (intro b h1 h2 h3; have h4 : _ = _ := h3; (try dsimp only at h2); exfalso; omega) | (intro h1; have h2 : _ = _ := h1; exfalso; omega) | (intros; exfalso; (try dsimp only at *); omega) | (intro b h1 h2 h3; exfalso; have h4 := h3.2; (try dsimp only at *); omega) | (intro h1; exfalso; have h4 := h1.2; (try dsimp only at *); omega))
            replace h8 := h8.chg kq_7 (by first | (intro x h1 h2; exact h2) | (intro x h1 h2; have h3 : _ = _ := h2; exfalso; omega) | (intro b h1 h2 h3; have h4 : _ = _ := h3; (try dsimp only at h2); exfalso; omega) | (intro h1; have h2 : _ = _ := h1; exfalso; omega) | (intros; exfalso; (try dsimp only at *); omega) | (intro b h1 h2 h3; exfalso; have h4 := h3.2; (try dsimp only at *); omega) | (intro h1; exfalso; have h4 := h1.2; (try dsimp only at *); omega))
            replace h13 := h13.chg kq_7 (by first | (intro x h1 h2; exact h2) | (intro x h1 h2; have h3 : _ = _ := h2; exfalso; omega) | (intro b h1 h2 h3; have h4 : _ = _ := h3; (try dsimp only at h2); exfalso; omega) | (intro h1; have h2 : _ = _ := h1; exfalso; omega) | (intros; exfalso; (try dsimp only at *); omega) | (intro b h1 h2 h3; exfalso; have h4 := h3.2; (try dsimp only at *); omega) | (intro h1; exfalso; have h4 := h1.2; (try dsimp only at *); omega))
            have hO := h.outer
            rw [ho] at hO
            refine WL.load Try.isAgg23 rfl ((hO.cellsAt hri) 0 _ rfl) rfl ?_
            refine WL.nil ?_
            exact WX.one ⟨rfl, by first | exact Chg.refl _ _ | assumption⟩
          apply DQ.step (E' := [(4, _)])
          case ho => rfl
          case hs => exact ⟨rfl, trivial⟩
          case hk => rfl
          case h1 =>
            intro wq_8 kq_8
            refine WL.move rfl rfl (?_)
            refine WL.nil ?_
            exact WX.one ⟨rfl, by first | exact Chg.refl _ _ | assumption⟩
          apply DQ.step (E' := [(34, _), (35, _)])
          case ho => rfl
          case hs => exact ⟨rfl, rfl, trivial⟩
          case hk => rfl
          case h1 =>
            intro wq_9 kq_9
            have zs_kq_9 := kq_9.size
            replace h := h.chg kq_9 (by first | (intro x h1 h2; exact h2) | (intro x h1 h2; have h3 : _ = _ := h2; exfalso; omega) | (intro b h1 h2 h3; have h4 : _ = _ := h3; (try dsimp only at h2); exfalso; omega) | (intro h1; have h2 : _ = _ := h1; exfalso; omega) | (intros; exfalso; (try dsimp only at *); omega) | (intro b h1 h2 h3; exfalso; have h4 := h3.2; (try dsimp only at *); omega) | (intro h1; exfalso; have h4 := h1.2; (try dsimp only at *); omega))
            replace hw := hw.chg kq_9 (by first | (intro x h1 h2; exact h2) | (intro x h1 h2; have h3 : _ = _ := h2; exfalso; omega) | (intro b h1 h2 h3; have h4 : _ = _ := h3; (try dsimp only at h2); exfalso; omega) | (intro h1; have h2 : _ = _ := h1; exfalso; omega) | (intros; exfalso; (try dsimp only at *); omega) | (intro b h1 h2 h3; exfalso; have h4 := h3.2; (try dsimp only at *); omega) | (intro h1; exfalso; have h4 := h1.2; (try dsimp only at *); omega))
            replace hrow := hrow.chg kq_9 (by first | (intro x h1 h2; exact h2) | (intro x h1 h2; have h3 : _ = _ := h2; exfalso; omega) | (intro b h1 h2 h3; have h4 : _ = _ := h3; (try dsimp only at h2); exfalso; omega) | (intro h1; have h2 : _ = _ := h1; exfalso; omega) | (intros; exfalso; (try dsimp only at *); omega) | (intro b h1 h2 h3; exfalso; have h4 := h3.2; (try dsimp only at *); omega) | (intro h1; exfalso; have h4 := h1.2; (try dsimp only at *); omega))
            replace h8 := h8.chg kq_9 (by first | (intro x h1 h2; exact h2) | (intro x h1 h2; have h3 : _ = _ := h2; exfalso; omega) | (intro b h1 h2 h3; have h4 : _ = _ := h3; (try dsimp only at h2); exfalso; omega) | (intro h1; have h2 : _ = _ := h1; exfalso; omega) | (intros; exfalso; (try dsimp only at *); omega) | (intro b h1 h2 h3; exfalso; have h4 := h3.2; (try dsimp only at *); omega) | (intro h1; exfalso; have h4 := h1.2; (try dsimp only at *); omega))
            replace h13 := h13.chg kq_9 (by first | (intro x h1 h2; exact h2) | (intro x h1 h2; have h3 : _ = _ := h2; exfalso; omega) | (intro b h1 h2 h3; have h4 : _ = _ := h3; (try dsimp only at h2); exfalso; omega) | (intro h1; have h2 : _ = _ := h1; exfalso; omega) | (intros; exfalso; (try dsimp only at *); omega) | (intro b h1 h2 h3; exfalso; have h4 := h3.2; (try dsimp only at *); omega) | (intro h1; exfalso; have h4 := h1.2; (try dsimp only at *); omega))
            refine WL.sliceC (l := 0) (h := k) (k := .i64) Try.underlying23 Try.sizeOf5 hrow rfl (.inr ⟨rfl, rfl⟩) (.inl rfl) (by constructor <;> omega) rfl ?_
            rw [e8]
            refine WL.nil ?_
            exact WX.one ⟨rfl, by first | exact Chg.refl _ _ | assumption⟩
          apply DQ.step (E' := [(0, _)])
          case ho => rfl
          case hs => exact ⟨rfl, trivial⟩
          case hk => rfl
          case h1 =>
            intro wq_10 kq_10
            refine WL.move rfl rfl (?_)
            refine WL.nil ?_
            exact WX.one ⟨rfl, by first | exact Chg.refl _ _ | assumption⟩
          apply DQ.step (E' := [(6, _)])
          case ho => rfl
          case hs => exact ⟨rfl, trivial⟩
          case hk => rfl
          case h1 =>
            intro wq_11 kq_11
            refine WL.move rfl rfl (?_)
            refine WL.nil ?_
            exact WX.one ⟨rfl, by first | exact Chg.refl _ _ | assumption⟩
          apply DQ.step (E' := [(38, _), (39, _)])
          case ho => rfl
          case hs => exact ⟨rfl, rfl, trivial⟩
          case hk => rfl
          case h1 =>
            intro wq_12 kq_12
            have zs_kq_12 := kq_12.size
            replace h := h.chg kq_12 (by first | (intro x h1 h2; exact h2) | (intro x h1 h2; have h3 : _ = _ := h2; exfalso; omega) | (intro b h1 h2 h3; have h4 : _ = _ := h3; (try dsimp only at h2); exfalso; omega) | (intro h1; have h2 : _ = _ := h1; exfalso; omega) | (intros; exfalso; (try dsimp only at *); omega) | (intro b h1 h2 h3; exfalso; have h4 := h3.2; (try dsimp only at *); omega) | (intro h1; exfalso; have h4 := h1.2; (try dsimp only at *); omega))
            replace hw := hw.chg kq_12 (by first | (intro x h1 h2; exact h2) | (intro x h1 h2; have h3 : _ = _ := h2; exfalso; omega) | (intro b h1 h2 h3; have h4 : _ = _ := h3; (try dsimp only at h2); exfalso; omega) | (intro h1; have h2 : _ = _ := h1; exfalso; omega) | (intros; exfalso; (try dsimp only at *); omega) | (intro b h1 h2 h3; exfalso; have h4 := h3.2; (try dsimp only at *); omega) | (intro h1; exfalso; have h4 := h1.2; (try dsimp only at *); omega))
            replace hrow := hrow.chg kq_12 (by first | (intro x h1 h2; exact h2) | (intro x h1 h2; have h3 : _ = _ := h2; exfalso; omega) | (intro b h1 h2 h3; have h4 : _ = _ := h3; (try dsimp only at h2); exfalso; omega) | (intro h1; have h2 : _ = _ := h1; exfalso; omega) | (intros; exfalso; (try dsimp only at *); omega) | (intro b h1 h2 h3; exfalso; have h4 := h3.2; (try dsimp only at *); omega) | (intro h1; exfalso; have h4 := h1.2; (try dsimp only at *); omega))
            replace h8 := h8.chg kq_12 (by first | (intro x h1 h2; exact h2) | (intro x h1 h2; have h3 : _ = _ := h2; exfalso; omega) | (intro b h1 h2 h3; have h4 : _ = _ := h3; (try dsimp only at h2); exfalso; omega) | (intro h1; have h2 : _ = _ := h1; exfalso; omega) | (intros; exfalso; (try dsimp only at *); omega) | (intro b h1 h2 h3; exfalso; have h4 := h3.2; (try dsimp only at *); omega) | (intro h1; exfalso; have h4 := h1.2; (try dsimp only at *); omega))
            replace h13 := h13.chg kq_12 (by first | (intro x h1 h2; exact h2) | (intro x h1 h2; have h3 : _ = _ := h2; exfalso; omega) | (intro b h1 h2 h3; have h4 : _ = _ := h3; (try dsimp only at h2); exfalso; omega) | (intro h1; have h2 : _ = _ := h1; exfalso; omega) | (intros; exfalso; (try dsimp only at *); omega) | (intro b h1 h2 h3; exfalso; have h4 := h3.2; (try dsimp only at *); omega) | (intro h1; exfalso; have h4 := h1.2; (try dsimp only at *); omega))
            have hO := h.outer
            rw [ho] at hO
            refine WL.indexC (e := erow) hO Try.underlying22 Try.sizeOf23 (by show some (Value.slice ao _ _) = _; rw [ho]) rfl ⟨hri, by omega⟩ rfl ?_
            refine WL.nil ?_
            exact WX.one ⟨rfl, by first | exact Chg.refl _ _ | assumption⟩
          apply DQ.step (E' := [(40, _)])
          case ho => rfl
          case hs => exact ⟨rfl, trivial⟩
          case hk => rfl
          case h1 =>
            intro wq_13 kq_13
            have zs_kq_13 := kq_13.size
            replace h := h.chg kq_13 (by first | (intro x h1 h2; exact h2) | (intro x h1 h2; have h3 : _ = _ := h2; exfalso; omega) | (intro b h1 h2 h3; have h4 : _ = _ := h3; (try dsimp only at h2); exfalso; omega) | (intro h1; have h2 : _ = _ := h1; exfalso; omega) | (intros; exfalso; (try dsimp only at *); omega) | (intro b h1 h2 h3; exfalso; have h4 := h3.2; (try dsimp only at *); omega) | (intro h1; exfalso; have h4 := h1.2; (try dsimp only at *); omega))
            replace hw := hw.chg kq_13 (by first | (intro x h1 h2; exact h2) | (intro x h1 h2; have h3 : _ = _ := h2; exfalso; omega) | (intro b h1 h2 h3; have h4 : _ = _ := h3; (try dsimp only at h2); exfalso; omega) | (intro h1; have h2 : _ = _ := h1; exfalso; omega) | (intros; exfalso; (try dsimp only at *); omega) | (intro b h1 h2 h3; exfalso; have h4 := h3.2; (try dsimp only at *); omega) | (intro h1; exfalso; have h4 := h1.2; (try dsimp only at *); omega))
            replace hrow := hrow.chg kq_13 (by first | (intro x h1 h2; exact h2) | (intro x h1 h2; have h3 : _ = _ := h2; exfalso; omega) | (intro b h1 h2 h3; have h4 : _ = _ := h3; (try dsimp only at h2); exfalso; omega) | (intro h1; have h2 : _ = _ := h1; exfalso; omega) | (intros; exfalso; (try dsimp only at *); omega) | (intro b h1 h2 h3; exfalso; have h4 := h3.2; (try dsimp only at *); omega) | (intro h1; exfalso; have h4 := h1.2; (try dsimp only at *); omega))
            replace h8 := h8.chg kq_13 (by first | (intro x h1 h2; exact h2) | (intro x h1 h2; have h3 : _ = _ := h2; exfalso; omega) | (intro b h1 h2 h3; have h4 : _ = _ := h3; (try dsimp only at h2); exfalso; omega) | (intro h1; have h2 : _ = _ := h1; exfalso; omega) | (intros; exfalso; (try dsimp only at *); omega) | (intro b h1 h2 h3; exfalso; have h4 := h3.2; (try dsimp only at *); omega) | (intro h1; exfalso; have h4 := h1.2; (try dsimp only at *); omega))
            replace h13 := h13.chg kq_13 (by first | (intro x h1 h2; exact h2) | (intro x h1 h2; have h3 : _ = _ := h2; exfalso; omega) | (intro b h1 h2 h3; have h4 : _ = _ := h3; (try dsimp only at h2); exfalso; omega) | (intro h1; have h2 : _ = _ := h1; exfalso; omega) | (intros; exfalso; (try dsimp only at *); omega) | (intro b h1 h2 h3; exfalso; have h4 := h3.2; (try dsimp only at *); omega) | (intro h1; exfalso; have h4 := h1.2; (try dsimp only at *); omega))
            have hO := h.outer
            rw [ho] at hO
            refine WL.load Try.isAgg23 rfl ((hO.cellsAt hri) 0 _ rfl) rfl ?_
            refine WL.nil ?_
            exact WX.one ⟨rfl, by first | exact Chg.refl _ _ | assumption⟩
          apply DQ.step (E' := [(4, _)])
          case ho => rfl
          case hs => exact ⟨rfl, trivial⟩
          case hk => rfl
          case h1 =>
            intro wq_14 kq_14
            refine WL.move rfl rfl (?_)
            refine WL.nil ?_
            exact WX.one ⟨rfl, by first | exact Chg.refl _ _ | assumption⟩
          apply DQ.step (E' := [(42, _)])
          case ho => rfl
          case hs => exact ⟨rfl, trivial⟩
          case hk => rfl
          case h1 =>
            intro wq_15 kq_15
            refine WL.add64 rfl rfl (by first | omega | (constructor <;> omega)) rfl (?_)
            refine WL.nil ?_
            exact WX.one ⟨rfl, by first | exact Chg.refl _ _ | assumption⟩
          apply DQ.step (E' := [(41, _), (43, _)])
          case ho => rfl
          case hs => exact ⟨rfl, rfl, trivial⟩
          case hk => rfl
          case h1 =>
            intro wq_16 kq_16
            have zs_kq_16 := kq_16.size
            replace h := h.chg kq_16 (by first | (intro x h1 h2; exact h2) | (intro x h1 h2; have h3 : _ = _ := h2; exfalso; omega) | (intro b h1 h2 h3; have h4 : _ = _ := h3; (try dsimp only at h2); exfalso; omega) | (intro h1; have h2 : _ = _ := h1; exfalso; omega) | (intros; exfalso; (try dsimp only at *); omega) | (intro b h1 h2 h3; exfalso; have h4 := h3.2; (try dsimp only at *); omega) | (intro h1; exfalso; have h4 := h1.2; (try dsimp only at *); omega))
            replace hw := hw.chg kq_16 (by first | (intro x h1 h2; exact h2) | (intro x h1 h2; have h3 : _ = _ := h2; exfalso; omega) | (intro b h1 h2 h3; have h4 : _ = _ := h3; (try dsimp only at h2); exfalso; omega) | (intro h1; have h2 : _ = _ := h1; exfalso; omega) | (intros; exfalso; (try dsimp only at *); omega) | (intro b h1 h2 h3; exfalso; have h4 := h3.2; (try dsimp only at *); omega) | (intro h1; exfalso; have h4 := h1.2; (try dsimp only at *); omega))
            replace hrow := hrow.chg kq_16 (by first | (intro x h1 h2; exact h2) | (intro x h1 h2; have h3 : _ = _ := h2; exfalso; omega) | (intro b h1 h2 h3; have h4 : _ = _ := h3; (try dsimp only at h2); exfalso; omega) | (intro h1; have h2 : _ = _ := h1; exfalso; omega) | (intros; exfalso; (try dsimp only at *); omega) | (intro b h1 h2 h3; exfalso; have h4 := h3.2; (try dsimp only at *); omega) | (intro h1; exfalso; have h4 := h1.2; (try dsimp only at *); omega))
            replace h8 := h8.chg kq_16 (by first | (intro x h1 h2; exact h2) | (intro x h1 h2; have h3 : _ = _ := h2; exfalso; omega) | (intro b h1 h2 h3; have h4 : _ = _ := h3; (try dsimp only at h2); exfalso; omega) | (intro h1; have h2 : _ = _ := h1; exfalso; omega) | (intros; exfalso; (try dsimp only at *); omega) | (intro b h1 h2 h3; exfalso; have h4 := h3.2; (try dsimp only at *); omega) | (intro h1; exfalso; have h4 := h1.2; (try dsimp only at *); omega))
            replace h13 := h13.chg kq_16 (by first | (intro x h1 h2; exact h2) | (intro x h1 h2; have h3 : _ = _ := h2; exfalso; omega) | (intro b h1 h2 h3; have h4 : _ = _ := h3; (try dsimp only at h2); exfalso; omega) | (intro h1; have h2 : _ = _ := h1; exfalso; omega) | (intros; exfalso; (try dsimp only at *); omega) | (intro b h1 h2 h3; exfalso; have h4 := h3.2; (try dsimp only at *); omega) | (intro h1; exfalso; have h4 := h1.2; (try dsimp only at *); omega))
            refine WL.sliceC (l := k + 1) (h := r.xs.length) (j := .i64) Try.underlying23 Try.sizeOf5 hrow rfl (.inl rfl) (.inr ⟨rfl, rfl⟩) (by constructor <;> omega) rfl ?_
            rw [e13]
            refine WL.nil ?_
            exact WX.one ⟨rfl, by first | exact Chg.refl _ _ | assumption⟩
          refine DQ.done (fun hd_2 => ?_)
          refine DL.step [] rfl trivial rfl (fun wq_17 kq_17 => ?_)
          have zs_kq_17 := kq_17.size
          replace hC := hC.pure kq_17
          replace h := h.pure kq_17
          replace hw := hw.pure kq_17
          replace hrow := hrow.pure kq_17
          replace h8 := h8.pure kq_17
          replace h13 := h13.pure kq_17
          replace hd_2 := hd_2.pure kq_17
          refine WL.build (e := eb) [] Try.underlying23 Try.sizeOf5 Try.zeroValue5 rfl rfl rfl (by first | (simp [Value.cells]; done) | (simp [Value.cells] <;> rfl) | (simp [Value.cells, eb, ei, es, ebool, e32, e64]; done)) (by decide) rfl ?_
          intro a_hq w_hq hq l_hq z_hq k_hq
          have zs_k_hq := k_hq.size
          replace hC := hC.pure k_hq
          replace h := h.pure k_hq
          replace hw := hw.pure k_hq
          replace hrow := hrow.pure k_hq
          replace h8 := h8.pure k_hq
          replace h13 := h13.pure k_hq
          replace hd_2 := hd_2.pure k_hq
          refine WL.nil ?_
          refine WX.one ⟨hd_2, ?_⟩
          refine DL.step [(30, _), (36, _)] rfl ⟨rfl, rfl, trivial⟩ rfl (fun wq_18 kq_18 => ?_)
          have zs_kq_18 := kq_18.size
          replace hC := hC.pure kq_18
          replace h := h.pure kq_18
          replace hw := hw.pure kq_18
          replace hrow := hrow.pure kq_18
          replace h8 := h8.pure kq_18
          replace h13 := h13.pure kq_18
          replace hd_2 := hd_2.pure kq_18
          replace hq := hq.pure kq_18
          refine WL.append (e := eb) (xs := []) (S := fun b => n1 ≤ b) info_5 rfl Try.underlying23 rfl rfl (hq.mono (fun b hb => by omega)) (h8.src Try.underlying23) (by show (0 + (r.xs.take k).length) * 1 ≤ _ ∧ 0 + (r.xs.take k).length ≤ _; constructor <;> omega) (fun b hb => by omega) rfl ?_
          intro a9 c9 w9 hQ g9 n9
          have k9 := g9.chg.mono (M' := fun x => n1 ≤ x) (fun x _ hx => hx.2)
          have k9' := k9.mono (M' := fun x => w.heap.size ≤ x) (fun x _ hx => by have h2 : n1 ≤ x := hx; show w.heap.size ≤ x; omega)
          have hC9 := hC.chg k9 (fun x h1 h2 => by have h3 : n1 ≤ x := h2; omega)
          have zs_k9' := k9'.size
          replace h := h.chg k9' (by first | (intro x h1 h2; exact h2) | (intro x h1 h2; have h3 : _ = _ := h2; exfalso; omega) | (intro b h1 h2 h3; have h4 : _ = _ := h3; (try dsimp only at h2); exfalso; omega) | (intro h1; have h2 : _ = _ := h1; exfalso; omega) | (intros; exfalso; (try dsimp only at *); omega) | (intro b h1 h2 h3; exfalso; have h4 := h3.2; (try dsimp only at *); omega) | (intro h1; exfalso; have h4 := h1.2; (try dsimp only at *); omega))
          replace hw := hw.chg k9' (by first | (intro x h1 h2; exact h2) | (intro x h1 h2; have h3 : _ = _ := h2; exfalso; omega) | (intro b h1 h2 h3; have h4 : _ = _ := h3; (try dsimp only at h2); exfalso; omega) | (intro h1; have h2 : _ = _ := h1; exfalso; omega) | (intros; exfalso; (try dsimp only at *); omega) | (intro b h1 h2 h3; exfalso; have h4 := h3.2; (try dsimp only at *); omega) | (intro h1; exfalso; have h4 := h1.2; (try dsimp only at *); omega))
          replace hrow := hrow.chg k9' (by first | (intro x h1 h2; exact h2) | (intro x h1 h2; have h3 : _ = _ := h2; exfalso; omega) | (intro b h1 h2 h3; have h4 : _ = _ := h3; (try dsimp only at h2); exfalso; omega) | (intro h1; have h2 : _ = _ := h1; exfalso; omega) | (intros; exfalso; (try dsimp only at *); omega) | (intro b h1 h2 h3; exfalso; have h4 := h3.2; (try dsimp only at *); omega) | (intro h1; exfalso; have h4 := h1.2; (try dsimp only at *); omega))
          replace h8 := h8.chg k9' (by first | (intro x h1 h2; exact h2) | (intro x h1 h2; have h3 : _ = _ := h2; exfalso; omega) | (intro b h1 h2 h3; have h4 : _ = _ := h3; (try dsimp only at h2); exfalso; omega) | (intro h1; have h2 : _ = _ := h1; exfalso; omega) | (intros; exfalso; (try dsimp only at *); omega) | (intro b h1 h2 h3; exfalso; have h4 := h3.2; (try dsimp only at *); omega) | (intro h1; exfalso; have h4 := h1.2; (try dsimp only at *); omega))
          replace h13 := h13.chg k9' (by first | (intro x h1 h2; exact h2) | (intro x h1 h2; have h3 : _ = _ := h2; exfalso; omega) | (intro b h1 h2 h3; have h4 : _ = _ := h3; (try dsimp only at h2); exfalso; omega) | (intro h1; have h2 : _ = _ := h1; exfalso; omega) | (intros; exfalso; (try dsimp only at *); omega) | (intro b h1 h2 h3; exfalso; have h4 := h3.2; (try dsimp only at *); omega) | (intro h1; exfalso; have h4 := h1.2; (try dsimp only at *); omega))
          replace hd_2 := hd_2.chg k9' (by first | (intro x h1 h2; exact h2) | (intro x h1 h2; have h3 : _ = _ := h2; exfalso; omega) | (intro b h1 h2 h3; have h4 : _ = _ := h3; (try dsimp only at h2); exfalso; omega) | (intro h1; have h2 : _ = _ := h1; exfalso; omega) | (intros; exfalso; (try dsimp only at *); omega) | (intro b h1 h2 h3; exfalso; have h4 := h3.2; (try dsimp only at *); omega) | (intro h1; exfalso; have h4 := h1.2; (try dsimp only at *); omega))
          refine WL.nil ?_
          refine WX.one ⟨hd_2, ?_⟩
          refine DL.step [(37, _), (44, _)] rfl ⟨rfl, rfl, trivial⟩ rfl (fun wq_19 kq_19 => ?_)
          have zs_kq_19 := kq_19.size
          replace h := h.pure kq_19
          replace hw := hw.pure kq_19
          replace hrow := hrow.pure kq_19
          replace h8 := h8.pure kq_19
          replace h13 := h13.pure kq_19
          replace hd_2 := hd_2.pure kq_19
          replace hQ := hQ.pure kq_19
          replace hC9 := hC9.pure kq_19
          refine WL.append (e := eb) (xs := r.xs.take k) (S := fun b => n1 ≤ b) info_5 rfl Try.underlying23 rfl rfl hQ (h13.src Try.underlying23) (by show ((r.xs.take k).length + (r.xs.drop (k + 1)).length) * 1 ≤ _ ∧ (r.xs.take k).length + (r.xs.drop (k + 1)).length ≤ _; constructor <;> omega) (fun b hb => by omega) rfl ?_
          intro a14 c14 w14 hR g14 n14
          have k14 := g14.chg.mono (M' := fun x => n1 ≤ x) (fun x _ hx => hx.2)
          have k14' := k14.mono (M' := fun x => w.heap.size ≤ x) (fun x _ hx => by have h2 : n1 ≤ x := hx; show w.heap.size ≤ x; omega)
          have hC14 := hC9.chg k14 (fun x h1 h2 => by have h3 : n1 ≤ x := h2; omega)
          have zs_k14' := k14'.size
          replace h := h.chg k14' (by first | (intro x h1 h2; exact h2) | (intro x h1 h2; have h3 : _ = _ := h2; exfalso; omega) | (intro b h1 h2 h3; have h4 : _ = _ := h3; (try dsimp only at h2); exfalso; omega) | (intro h1; have h2 : _ = _ := h1; exfalso; omega) | (intros; exfalso; (try dsimp only at *); omega) | (intro b h1 h2 h3; exfalso; have h4 := h3.2; (try dsimp only at *); omega) | (intro h1; exfalso; have h4 := h1.2; (try dsimp only at *); omega))
          replace hw := hw.chg k14' (by first | (intro x h1 h2; exact h2) | (intro x h1 h2; have h3 : _ = _ := h2; exfalso; omega) | (intro b h1 h2 h3; have h4 : _ = _ := h3; (try dsimp only at h2); exfalso; omega) | (intro h1; have h2 : _ = _ := h1; exfalso; omega) | (intros; exfalso; (try dsimp only at *); omega) | (intro b h1 h2 h3; exfalso; have h4 := h3.2; (try dsimp only at *); omega) | (intro h1; exfalso; have h4 := h1.2; (try dsimp only at *); omega))
          replace hrow := hrow.chg k14' (by first | (intro x h1 h2; exact h2) | (intro x h1 h2; have h3 : _ = _ := h2; exfalso; omega) | (intro b h1 h2 h3; have h4 : _ = _ := h3; (try dsimp only at h2); exfalso; omega) | (intro h1; have h2 : _ = _ := h1; exfalso; omega) | (intros; exfalso; (try dsimp only at *); omega) | (intro b h1 h2 h3; exfalso; have h4 := h3.2; (try dsimp only at *); omega) | (intro h1; exfalso; have h4 := h1.2; (try dsimp only at *); omega))
          replace h8 := h8.chg k14' (by first | (intro x h1 h2; exact h2) | (intro x h1 h2; have h3 : _ = _ := h2; exfalso; omega) | (intro b h1 h2 h3; have h4 : _ = _ := h3; (try dsimp only at h2); exfalso; omega) | (intro h1; have h2 : _ = _ := h1; exfalso; omega) | (intros; exfalso; (try dsimp only at *); omega) | (intro b h1 h2 h3; exfalso; have h4 := h3.2; (try dsimp only at *); omega) | (intro h1; exfalso; have h4 := h1.2; (try dsimp only at *); omega))
          replace h13 := h13.chg k14' (by first | (intro x h1 h2; exact h2) | (intro x h1 h2; have h3 : _ = _ := h2; exfalso; omega) | (intro b h1 h2 h3; have h4 : _ = _ := h3; (try dsimp only at h2); exfalso; omega) | (intro h1; have h2 : _ = _ := h1; exfalso; omega) | (intros; exfalso; (try dsimp only at *); omega) | (intro b h1 h2 h3; exfalso; have h4 := h3.2; (try dsimp only at *); omega) | (intro h1; exfalso; have h4 := h1.2; (try dsimp only at *); omega))
          replace hd_2 := hd_2.chg k14' (by first | (intro x h1 h2; exact h2) | (intro x h1 h2; have h3 : _ = _ := h2; exfalso; omega) | (intro b h1 h2 h3; have h4 : _ = _ := h3; (try dsimp only at h2); exfalso; omega) | (intro h1; have h2 : _ = _ := h1; exfalso; omega) | (intros; exfalso; (try dsimp only at *); omega) | (intro b h1 h2 h3; exfalso; have h4 := h3.2; (try dsimp only at *); omega) | (intro h1; exfalso; have h4 := h1.2; (try dsimp only at *); omega))
          refine WL.nil ?_
          refine WX.one ⟨hd_2, ?_⟩
          refine DL.step [(45, _)] rfl ⟨rfl, trivial⟩ rfl (fun wq_20 kq_20 => ?_)
          have zs_kq_20 := kq_20.size
          replace h := h.pure kq_20
          replace hw := hw.pure kq_20
          replace hrow := hrow.pure kq_20
          replace h8 := h8.pure kq_20
          replace h13 := h13.pure kq_20
          replace hd_2 := hd_2.pure kq_20
          replace hR := hR.pure kq_20
          replace hC14 := hC14.pure kq_20
          refine WL.build (e := erow) [⟨a14, c14, r.xs.take k ++ r.xs.drop (k + 1)⟩] Try.underlying22 Try.sizeOf23 Try.zeroValue23 rfl rfl rfl (by first | (simp [Value.cells]; done) | (simp [Value.cells] <;> rfl) | (simp [Value.cells, eb, ei, es, ebool, e32, e64]; done)) (by decide) rfl ?_
          intro a_qr w_qr qr l_qr z_qr k_qr
          have zs_k_qr := k_qr.size
          replace h := h.pure k_qr
          replace hw := hw.pure k_qr
          replace hrow := hrow.pure k_qr
          replace h8 := h8.pure k_qr
          replace h13 := h13.pure k_qr
          replace hd_2 := hd_2.pure k_qr
          replace hR := hR.pure k_qr
          replace hC14 := hC14.pure k_qr
          refine WL.nil ?_
          refine WX.one ⟨hd_2, ?_⟩
          refine DL.step [(29, _), (46, _)] rfl ⟨rfl, rfl, trivial⟩ rfl (fun wq_21 kq_21 => ?_)
          have zs_kq_21 := kq_21.size
          replace h := h.pure kq_21
          replace hw := hw.pure kq_21
          replace hrow := hrow.pure kq_21
          replace h8 := h8.pure kq_21
          replace h13 := h13.pure kq_21
          replace hd_2 := hd_2.pure kq_21
          replace hR := hR.pure kq_21
          replace hC14 := hC14.pure kq_21
          replace qr := qr.pure kq_21
          refine WL.append (e := erow) (S := fun b => w.heap.size ≤ b) info_23 rfl Try.underlying22 rfl rfl (hC14.outer.mono (fun b hb => hb.1)) (qr.rsl.src Try.underlying22) (by show (ms.length + 1) * 24 ≤ _ ∧ ms.length + 1 ≤ _; constructor <;> omega) (fun b hb => by have := hw.size; omega) rfl ?_
          intro a15 c15 w15 hO15 g15 n15
          have hC15 := hC14.snoc (r := ⟨a14, c14, r.xs.take k ++ r.xs.drop (k + 1)⟩) hR.lt.rsl hwn (by omega) hO15 g15
          have k15 := g15.chg.mono (M' := fun x => w.heap.size ≤ x) (fun x _ hx => hx.2)
          have hz15 : w.heap.size ≤ w15.heap.size := by have := g15.chg.size; omega
          have zs_k15 := k15.size
          replace h := h.chg k15 (by first | (intro x h1 h2; exact h2) | (intro x h1 h2; have h3 : _ = _ := h2; exfalso; omega) | (intro b h1 h2 h3; have h4 : _ = _ := h3; (try dsimp only at h2); exfalso; omega) | (intro h1; have h2 : _ = _ := h1; exfalso; omega) | (intros; exfalso; (try dsimp only at *); omega) | (intro b h1 h2 h3; exfalso; have h4 := h3.2; (try dsimp only at *); omega) | (intro h1; exfalso; have h4 := h1.2; (try dsimp only at *); omega))
          replace hw := hw.chg k15 (by first | (intro x h1 h2; exact h2) | (intro x h1 h2; have h3 : _ = _ := h2; exfalso; omega) | (intro b h1 h2 h3; have h4 : _ = _ := h3; (try dsimp only at h2); exfalso; omega) | (intro h1; have h2 : _ = _ := h1; exfalso; omega) | (intros; exfalso; (try dsimp only at *); omega) | (intro b h1 h2 h3; exfalso; have h4 := h3.2; (try dsimp only at *); omega) | (intro h1; exfalso; have h4 := h1.2; (try dsimp only at *); omega))
          replace hrow := hrow.chg k15 (by first | (intro x h1 h2; exact h2) | (intro x h1 h2; have h3 : _ = _ := h2; exfalso; omega) | (intro b h1 h2 h3; have h4 : _ = _ := h3; (try dsimp only at h2); exfalso; omega) | (intro h1; have h2 : _ = _ := h1; exfalso; omega) | (intros; exfalso; (try dsimp only at *); omega) | (intro b h1 h2 h3; exfalso; have h4 := h3.2; (try dsimp only at *); omega) | (intro h1; exfalso; have h4 := h1.2; (try dsimp only at *); omega))
          replace h8 := h8.chg k15 (by first | (intro x h1 h2; exact h2) | (intro x h1 h2; have h3 : _ = _ := h2; exfalso; omega) | (intro b h1 h2 h3; have h4 : _ = _ := h3; (try dsimp only at h2); exfalso; omega) | (intro h1; have h2 : _ = _ := h1; exfalso; omega) | (intros; exfalso; (try dsimp only at *); omega) | (intro b h1 h2 h3; exfalso; have h4 := h3.2; (try dsimp only at *); omega) | (intro h1; exfalso; have h4 := h1.2; (try dsimp only at *); omega))
          replace h13 := h13.chg k15 (by first | (intro x h1 h2; exact h2) | (intro x h1 h2; have h3 : _ = _ := h2; exfalso; omega) | (intro b h1 h2 h3; have h4 : _ = _ := h3; (try dsimp only at h2); exfalso; omega) | (intro h1; have h2 : _ = _ := h1; exfalso; omega) | (intros; exfalso; (try dsimp only at *); omega) | (intro b h1 h2 h3; exfalso; have h4 := h3.2; (try dsimp only at *); omega) | (intro h1; exfalso; have h4 := h1.2; (try dsimp only at *); omega))
          replace hd_2 := hd_2.chg k15 (by first | (intro x h1 h2; exact h2) | (intro x h1 h2; have h3 : _ = _ := h2; exfalso; omega) | (intro b h1 h2 h3; have h4 : _ = _ := h3; (try dsimp only at h2); exfalso; omega) | (intro h1; have h2 : _ = _ := h1; exfalso; omega) | (intros; exfalso; (try dsimp only at *); omega) | (intro b h1 h2 h3; exfalso; have h4 := h3.2; (try dsimp only at *); omega) | (intro h1; exfalso; have h4 := h1.2; (try dsimp only at *); omega))
          refine WL.nil ?_
          refine WX.one ⟨hd_2, ?_⟩
          refine DL.step [(47, _)] rfl ⟨rfl, trivial⟩ rfl (fun wq_22 kq_22 => ?_)
          have zs_kq_22 := kq_22.size
          replace h := h.pure kq_22
          replace hw := hw.pure kq_22
          replace hrow := hrow.pure kq_22
          replace h8 := h8.pure kq_22
          replace h13 := h13.pure kq_22
          replace hd_2 := hd_2.pure kq_22
          replace hC15 := hC15.pure kq_22
          refine WL.assign rfl rfl (?_)
          refine WL.nil ?_
          refine WX.one ⟨hd_2, ?_⟩
          refine DL.done (fun we_23 ke_23 => ?_)
          have zs_ke_23 := ke_23.size
          replace h := h.pure ke_23
          replace hw := hw.pure ke_23
          replace hrow := hrow.pure ke_23
          replace h8 := h8.pure ke_23
          replace h13 := h13.pure ke_23
          replace hd_2 := hd_2.pure ke_23
          replace hC15 := hC15.pure ke_23
          refine WX.block_normal (WX.then_normal (WC.region (WL.move rfl rfl (WL.add64 rfl rfl (by first | omega | (constructor <;> omega)) rfl (WL.assign rfl rfl (WL.nil (?_)))))))
          first
            | exact WX.loop_next (i + 1, a15, c15, _, ms ++ [⟨a14, c14, r.xs.take k ++ r.xs.drop (k + 1)⟩]) ⟨rfl, rfl, rfl, rfl, rfl, trivial⟩ ⟨by show i + 1 ≤ m; omega, ⟨by show (ms ++ [_]).length = _; simp [hmsl], fun j r' z hr' hz => (by
                rcases get_snoc hz with h1 | ⟨h1, h2⟩
                ·
                  exact hms j r' z hr' h1
                ·
                  subst h2
                  rw [h1, hmsl, hri] at hr'
                  injection hr' with hr'
                  rw [← hr'])⟩, hC15, ⟨hz15, by show w15.heap.size ≤ _; omega⟩, h, hw⟩ (by show m - (i + 1) < m - i; omega)
            | (have hx0 : x = 0 := u8_zero h22
               exact WX.loop_next (k + 1) ⟨rfl, by rw [sumF, show D k = 0 by rw [hD]; show mul (fn (mx rs) 0 k) _ = 0; rw [hfx, hx0, mul_zero_l], xor_zero']; rfl, rfl, trivial⟩ ⟨by omega, h, hw⟩ (by omega))
            | exact WX.loop_next (k + 1) ⟨rfl, by rw [sumF, show D k = mul x (det i (minor (fn (mx rs)) k)) by rw [hD, ← hfx]]; rfl, rfl, trivial⟩ ⟨by omega, h, hw⟩ (by omega)
        ·
          refine WL.nil (WX.then_normal (WC.cond_false rfl (WC.exit (WX.then_exit (WX.then_exit (WX.block_here (WX.then_normal (?_))))))))
          have him : i = m := by omega
          subst him
          obtain ⟨ob2, oo4, ho2⟩ := h.outer.place hr0
          obtain ⟨ib, io, hio⟩ := (h.at hr0).place hx
          refine WC.draw (Nob) [0, 1, 2, 3, 4, 5, 6, 7] [8, 9, 10, 11] mixed rfl rfl (fun wd_1 kd_1 zd_1 => ?_)
          have zs_kd_1 := kd_1.size
          replace hC := hC.pure kd_1
          replace h := h.pure kd_1
          replace hw := hw.pure kd_1
          apply DQ.step (E' := [(3, _)])
          case ho => rfl
          case hs => exact ⟨rfl, trivial⟩
          case hk => rfl
          case h1 =>
            intro wq_3 kq_3
            refine WL.move rfl rfl (?_)
            refine WL.nil ?_
            exact WX.one ⟨rfl, by first | exact Chg.refl _ _ | assumption⟩
          apply DQ.step (E' := [(0, _)])
          case ho => rfl
          case hs => exact ⟨rfl, trivial⟩
          case hk => rfl
          case h1 =>
            intro wq_4 kq_4
            refine WL.move rfl rfl (?_)
            refine WL.nil ?_
            exact WX.one ⟨rfl, by first | exact Chg.refl _ _ | assumption⟩
          apply DQ.step (E' := [(49, _)])
          case ho => rfl
          case hs => exact ⟨rfl, trivial⟩
          case hk => rfl
          case h1 =>
            intro wq_5 kq_5
            have zs_kq_5 := kq_5.size
            replace hC := hC.pure kq_5
            replace h := h.pure kq_5
            replace hw := hw.pure kq_5
            have hO := h.outer
            rw [ho2] at hO
            refine WL.indexC (e := erow) (j := 0) hO Try.underlying22 Try.sizeOf23 (by show some (Value.slice ao _ _) = _; rw [ho2]) rfl ⟨hr0, rfl⟩ rfl ?_
            refine WL.nil ?_
            exact WX.one ⟨rfl, by first | exact Chg.refl _ _ | assumption⟩
          apply DQ.step (E' := [(50, _)])
          case ho => rfl
          case hs => exact ⟨rfl, trivial⟩
          case hk => rfl
          case h1 =>
            intro wq_6 kq_6
            have zs_kq_6 := kq_6.size
            replace hC := hC.pure kq_6
            replace h := h.pure kq_6
            replace hw := hw.pure kq_6
            have hO := h.outer
            rw [ho2] at hO
            refine WL.load Try.isAgg23 rfl ((hO.cellsAt hr0) 0 _ rfl) rfl ?_
            refine WL.nil ?_
            exact WX.one ⟨rfl, by first | exact Chg.refl _ _ | assumption⟩
          apply DQ.step (E' := [(4, _)])
          case ho => rfl
          case hs => exact ⟨rfl, trivial⟩
          case hk => rfl
          case h1 =>
            intro wq_7 kq_7
            refine WL.move rfl rfl (?_)
            refine WL.nil ?_
            exact WX.one ⟨rfl, by first | exact Chg.refl _ _ | assumption⟩
          apply DQ.step (E' := [(51, _), (52, _)])
          case ho => rfl
          case hs => exact ⟨rfl, rfl, trivial⟩
          case hk => rfl
          case h1 =>
            intro wq_8 kq_8
            have zs_kq_8 := kq_8.size
            replace hC := hC.pure kq_8
            replace h := h.pure kq_8
            replace hw := hw.pure kq_8
            have hI := h.at hr0
            rw [hio] at hI
            refine WL.indexC (e := eb) hI Try.underlying23 Try.sizeOf5 (by show some (Value.slice r0.ao _ _) = _; rw [hio]) rfl ⟨hx, rfl⟩ rfl ?_
            refine WL.nil ?_
            exact WX.one ⟨rfl, by first | exact Chg.refl _ _ | assumption⟩
          apply DQ.step (E' := [(53, _)])
          case ho => rfl
          case hs => exact ⟨rfl, trivial⟩
          case hk => rfl
          case h1 =>
            intro wq_9 kq_9
            have zs_kq_9 := kq_9.size
            replace hC := hC.pure kq_9
            replace h := h.pure kq_9
            replace hw := hw.pure kq_9
            have hI := h.at hr0
            rw [hio] at hI
            refine WL.load Try.isAgg5 rfl ((hI.cellsAt hx) 0 _ rfl) rfl ?_
            refine WL.nil ?_
            exact WX.one ⟨rfl, by first | exact Chg.refl _ _ | assumption⟩
          apply DQ.step (E' := [(5, _)])
          case ho => rfl
          case hs => exact ⟨rfl, trivial⟩
          case hk => rfl
          case h1 =>
            intro wq_10 kq_10
            refine WL.move rfl rfl (?_)
            refine WL.nil ?_
            exact WX.one ⟨rfl, by first | exact Chg.refl _ _ | assumption⟩
          refine DQ.done (fun hd_2 => ?_)
          refine DL.step [(55, _)] rfl ⟨rfl, trivial⟩ rfl (fun wq_11 kq_11 => ?_)
          have zs_kq_11 := kq_11.size
          replace hC := hC.pure kq_11
          replace h := h.pure kq_11
          replace hw := hw.pure kq_11
          replace hd_2 := hd_2.pure kq_11
          have hdet : det i (fn (mx ms)) = det i (minor (fn (mx rs)) k) := det_cong (fun p q hp hq => by
            obtain ⟨r, hr⟩ : ∃ r, rs[p + 1]? = some r := ⟨_, List.getElem?_eq_getElem (by omega)⟩
            obtain ⟨z, hz⟩ : ∃ z, ms[p]? = some z := ⟨_, List.getElem?_eq_getElem (by omega)⟩
            have h1 := hrl r (List.mem_of_getElem? hr)
            show _ = fn (mx rs) (p + 1) (sk k q)
            rw [fn_mx hz, fn_mx hr, hms p r z hr hz, cut_getD (by omega)])
          have hmr : ∀ z ∈ ms, z.xs.length = i := fun z hz => by
            obtain ⟨p, hp⟩ := List.getElem?_of_mem hz
            have hpl := (List.getElem?_eq_some_iff.1 hp).1
            obtain ⟨r, hr⟩ : ∃ r, rs[p + 1]? = some r := ⟨_, List.getElem?_eq_getElem (by omega)⟩
            have h1 := hrl r (List.mem_of_getElem? hr)
            rw [hms p r z hr hp]
            simp
            omega
          refine WL.call eg_25 rfl rfl (ih i (by omega) hmsl (by omega) hmr hC.read) ?_
          rintro v w6 ⟨rfl, k6⟩
          rw [hdet]
          have zs_k6 := k6.size
          replace hC := hC.pure k6
          replace h := h.pure k6
          replace hw := hw.pure k6
          replace hd_2 := hd_2.pure k6
          refine WL.nil ?_
          refine WX.one ⟨hd_2, ?_⟩
          refine DL.step [(54, _), (56, _)] rfl ⟨rfl, rfl, trivial⟩ rfl (fun wq_12 kq_12 => ?_)
          have zs_kq_12 := kq_12.size
          replace hC := hC.pure kq_12
          replace h := h.pure kq_12
          replace hw := hw.pure kq_12
          replace hd_2 := hd_2.pure kq_12
          refine WL.call eg_27 rfl rfl (refMul_calls _ _ _) ?_
          rintro v w7 ⟨rfl, k7⟩
          have zs_k7 := k7.size
          replace hC := hC.pure k7
          replace h := h.pure k7
          replace hw := hw.pure k7
          replace hd_2 := hd_2.pure k7
          refine WL.nil ?_
          refine WX.one ⟨hd_2, ?_⟩
          refine DL.step [(48, _), (57, _)] rfl ⟨rfl, rfl, trivial⟩ rfl (fun wq_13 kq_13 => ?_)
          have zs_kq_13 := kq_13.size
          replace hC := hC.pure kq_13
          replace h := h.pure kq_13
          replace hw := hw.pure kq_13
          replace hd_2 := hd_2.pure kq_13
          refine WL.num rfl rfl (n_xor8 _ _ _ _) rfl (?_)
          refine WL.nil ?_
          refine WX.one ⟨hd_2, ?_⟩
          refine DL.step [(58, _)] rfl ⟨rfl, trivial⟩ rfl (fun wq_14 kq_14 => ?_)
          have zs_kq_14 := kq_14.size
          replace hC := hC.pure kq_14
          replace h := h.pure kq_14
          replace hw := hw.pure kq_14
          replace hd_2 := hd_2.pure kq_14
          refine WL.assign rfl rfl (?_)
          refine WL.nil ?_
          refine WX.one ⟨hd_2, ?_⟩
          refine DL.done (fun we_15 ke_15 => ?_)
          have zs_ke_15 := ke_15.size
          replace hC := hC.pure ke_15
          replace h := h.pure ke_15
          replace hw := hw.pure ke_15
          replace hd_2 := hd_2.pure ke_15
          refine WX.block_normal (WX.then_normal (WC.region (WL.move rfl rfl (WL.add64 rfl rfl (by first | omega | (constructor <;> omega)) rfl (WL.assign rfl rfl (WL.nil (?_)))))))
          first
            | exact WX.loop_next (i + 1, a15, c15, _, ms ++ [⟨a14, c14, r.xs.take k ++ r.xs.drop (k + 1)⟩]) ⟨rfl, rfl, rfl, rfl, rfl, trivial⟩ ⟨by show i + 1 ≤ m; omega, ⟨by show (ms ++ [_]).length = _; simp [hmsl], fun j r' z hr' hz => (by
                rcases get_snoc hz with h1 | ⟨h1, h2⟩
                ·
                  exact hms j r' z hr' h1
                ·
                  subst h2
                  rw [h1, hmsl, hri] at hr'
                  injection hr' with hr'
                  rw [← hr'])⟩, hC15, ⟨hz15, by show w15.heap.size ≤ _; omega⟩, h, hw⟩ (by show m - (i + 1) < m - i; omega)
            | (have hx0 : x = 0 := u8_zero h22
               exact WX.loop_next (k + 1) ⟨rfl, by rw [sumF, show D k = 0 by rw [hD]; show mul (fn (mx rs) 0 k) _ = 0; rw [hfx, hx0, mul_zero_l], xor_zero']; rfl, rfl, trivial⟩ ⟨by omega, h, hw⟩ (by omega))
            | exact WX.loop_next (k + 1) ⟨rfl, by rw [sumF, show D k = mul x (det i (minor (fn (mx rs)) k)) by rw [hD, ← hfx]]; rfl, rfl, trivial⟩ ⟨by omega, h, hw⟩ (by omega)
    ·
      refine WL.nil (WX.then_normal (WC.cond_false rfl (WC.exit (WX.then_exit (WX.then_exit (WX.block_here (WX.then_normal (?_))))))))
      refine WC.seq (WC.region (WL.move rfl rfl (WL.assign rfl rfl (WL.nil (WX.then_normal (WC.ret (?_)))))))
      refine WX.ret1 (.inl rfl) Try.results25 rfl ?_
      first
        | (have h0 : n = 0 := by omega
           subst h0
           exact ⟨_, rfl, rfl, hw⟩)
        | (have hkm : k = m + 1 := by omega
           subst hkm
           refine ⟨_, rfl, ?_, hw⟩
           rw [det, hD])
end Go.Proofs.Ytjdbjdgobhjbkaa
namespace Go.Proofs.Ytjdbjdgobhjbkaa
open Go.RowKit Go.HL

theorem bytes_eq {a b : List UInt8} : (⟨a.toArray⟩ : ByteArray) = ⟨b.toArray⟩ ↔ a = b := by simp
theorem SolR.bad {rows : List (List UInt8)} {rgt out : List UInt8} {e : Int} (h : SolR rows rgt out e) (hs : ¬ ShapeOk rows rgt) : out = [] ∧ e = 1 := by
  rcases h with ⟨_, h1, h2⟩ | ⟨h1, _⟩ | ⟨h1, _⟩
  · exact ⟨h1, h2⟩
  · exact absurd h1 hs
  · exact absurd h1 hs
/-- a product of given unknowns -/
theorem SolR.holds {rows : List (List UInt8)} {rgt out x : List UInt8} (h : SolR rows rgt out 0) (hx : x.length = rows.length) (hp : ∀ i, i < rows.length → sumF rows.length (fun j => mul (fn rows i j) (x.getD j 0)) = rgt.getD i 0) : out = x := by
  rcases h with ⟨_, _, h1⟩ | ⟨_, _, hl, h1⟩ | ⟨_, h1, _⟩
  · exact absurd h1 (by decide)
  · exact getD_ext (hl.trans hx.symm) (fun i hi => ((h1 (fun j => x.getD j 0)).1 hp i (by omega)).symm)
  · exact absurd h1 (by decide)
theorem SolR.miss2 {rows : List (List UInt8)} {rgt out r2 o2 : List UInt8} {e2 : Int} (h : SolR rows rgt out 7) (k : SolR rows r2 o2 e2) (hs : ShapeOk rows r2) : o2 = [] ∧ e2 = 7 := by
  rcases h with ⟨_, _, h1⟩ | ⟨_, h1, _⟩ | ⟨_, _, _, y, ⟨j, hj, hy⟩, hK⟩
  · exact absurd h1 (by decide)
  · exact absurd h1 (by decide)
  · rcases k with ⟨k1, _⟩ | ⟨_, _, _, k1⟩ | ⟨_, k1, k2, _⟩
    · exact absurd hs k1
    · exact absurd (ker_uniq k1 hK hj) hy
    · exact ⟨k2, k1⟩
set_option maxHeartbeats 4000000 in
theorem FieldHolds_calls {w : World} {c cx : Nat} {ao ax : Option Addr} {rs : List Rw} {xs : List UInt8} (h : RS (· < w.heap.size) w ao c rs) (hx : RSl (· < w.heap.size) w eb ax cx xs) (hl1 : rs.length ≤ 9223372036854775807) (hl2 : xs.length ≤ 9223372036854775807) (hl3 : ∀ r ∈ rs, r.xs.length ≤ 9223372036854775807) :
    Calls Try.prog 4 [.slice ao rs.length c, .slice ax xs.length cx].toArray w (Ret fun v w' => v = .bool true ∧ Chg Nob w w') := by
  have hw := Chg.refl Nob w
  have hml := mx_len rs
  refine Calls.of_WC Try.func4 rfl Try.ntmps4 (by simp) ?_
  refine WC.seq (WC.region (WL.assign rfl rfl (WL.nil (WX.then_normal (WC.seq (WC.seq (WC.region (?_))))))))
  refine WL.call eg_11 rfl rfl (known2_calls _) ?_
  rintro v w1 ⟨rfl, k1⟩
  have zs_k1 := k1.size
  replace h := h.pure k1
  replace hx := hx.pure k1
  replace hw := hw.pure k1
  refine WL.not rfl rfl (WL.nil (WX.then_normal (WC.cond_false rfl (WC.skip (WX.then_normal (WC.seq (WC.region (?_))))))))
  refine WL.move rfl rfl (WL.len Try.underlying22 rfl rfl (WL.assign rfl rfl (WL.nil (WX.then_normal (WC.seq (WC.region (?_)))))))
  refine WL.call eg_13 rfl rfl (fresh_calls _) ?_
  rintro v w1 ⟨⟨gf, rfl, hF, hgf⟩, k1⟩
  have zs_k1 := k1.size
  replace h := h.pure k1
  replace hx := hx.pure k1
  replace hw := hw.pure k1
  have hgw : w.heap.size ≤ gf := by have := hw.size; have := k1.size; omega
  refine WL.assign rfl rfl (WL.nil (WX.then_normal (WC.seq (WC.region (WL.assign rfl rfl (WL.nil (WX.then_normal (?_))))))))
  refine WC.seq (WC.seq (WC.region (WL.assign rfl rfl (WL.nil (WX.then_normal (WC.block (?_)))))))
  refine WC.loop (σ := Nat × (Option Addr × Nat × List UInt8)) (fun q => [(0, .slice ao rs.length c), (1, .slice ax xs.length cx), (5, vi rs.length), (6, .pointer (some ⟨gf, 0, none⟩)), (7, .slice q.2.1 q.2.2.2.length q.2.2.1), (8, vi (q.1 : Int))])
    (fun q w' => (q.1 ≤ rs.length ∧ (q.1 = 0 ∨ xs.length = rs.length ∧ rs.length ≤ 8)) ∧ (q.2.2.2.length = q.1 ∧ (∀ j, j < q.1 → q.2.2.2.getD j 0 = sumF rs.length (fun k => mul (fn (mx rs) j k) (xs.getD k 0))) ∧ ∀ j r, j < q.1 → rs[j]? = some r → r.xs.length = rs.length) ∧ Row (fun b => gf < b) w' 5 eb q.2.1 q.2.2.1 q.2.2.2 ∧ Fld w' gf ∧ RS (· < w.heap.size) w' ao c rs ∧ RSl (· < w.heap.size) w' eb ax cx xs ∧ Chg Nob w w') (fun q => rs.length - q.1) (0, none, 0, []) ⟨rfl, rfl, rfl, rfl, rfl, rfl, trivial⟩ ⟨⟨Nat.zero_le _, .inl rfl⟩, ⟨rfl, fun j hj => absurd hj (Nat.not_lt_zero j), fun j r hj => absurd hj (Nat.not_lt_zero j)⟩, Row.nil _ _ _ _, hF, h, hx, hw⟩ ?_
  clear hF h hx hw
  rintro ⟨i, aq, cq, rgt⟩ w1 ⟨⟨hi, hi0⟩, ⟨hql, hqv, hqr⟩, hq, hF, h, hx, hw⟩
  simp only at hi hi0 hql hqv hqr hq
  dsimp only
  have lgf := hF.lt
  refine WC.seq (WC.seq (WC.region (WL.move rfl rfl (WL.move rfl rfl (?_)))))
  refine WL.lss? rfl rfl rfl (fun h21 => ?_) (fun h21 => ?_)
  ·
    refine WL.nil (WX.then_normal (WC.cond_true rfl (WC.skip (WX.then_normal (WC.seq (WC.block (WC.seq (?_))))))))
    refine WC.seq (WC.region (WL.move rfl rfl (WL.move rfl rfl (?_))))
    obtain ⟨r, hri⟩ : ∃ r, rs[i]? = some r := ⟨_, List.getElem?_eq_getElem (by omega)⟩
    have hrl3 := hl3 r (List.mem_of_getElem? hri)
    refine WL.indexT (e := erow) Try.underlying22 Try.sizeOf23 h.outer rfl rfl ⟨hri, rfl⟩ rfl ?_
    intro bb oo hcc
    refine WL.load Try.isAgg23 rfl (hcc 0 _ rfl) rfl ?_
    refine WL.len Try.underlying23 rfl rfl (WL.move rfl rfl (?_))
    refine WL.neq? rfl rfl rfl (fun h30 => ?_) (fun h30 => ?_)
    ·
      refine WL.move rfl rfl (WL.pass rfl rfl rfl rfl (WL.pass rfl rfl rfl rfl (WL.pass rfl rfl rfl rfl (WL.pass rfl rfl rfl rfl (WL.pickT rfl rfl rfl (WL.move rfl rfl (WL.pass rfl rfl rfl rfl (?_))))))))
      refine WL.pass rfl rfl rfl rfl (WL.pickT rfl rfl rfl (WL.nil (WX.then_normal (WC.cond_true rfl (WC.seq (WC.region (WL.assign rfl rfl (?_))))))))
      refine WL.nil (WX.then_normal (WC.ret (WX.then_ret (WX.block_ret (WX.then_ret (WX.then_ret (WX.block_ret (?_))))))))
      refine WX.then_ret (?_)
      refine WX.ret1 (.inl rfl) Try.results4 rfl ?_
      exact ⟨_, rfl, rfl, hw⟩
    ·
      refine WL.move rfl rfl (WL.want rfl rfl rfl (WL.move rfl rfl (WL.want rfl rfl rfl (WL.len Try.underlying23 rfl rfl (WL.want rfl rfl rfl (WL.move rfl rfl (WL.want rfl rfl rfl (?_))))))))
      refine WL.neq? rfl rfl rfl (fun h35 => ?_) (fun h35 => ?_)
      ·
        refine WL.pickF rfl rfl rfl (WL.move rfl rfl (WL.pass rfl rfl rfl rfl (WL.pass rfl rfl rfl rfl (WL.pickT rfl rfl rfl (WL.nil (WX.then_normal (WC.cond_true rfl (?_))))))))
        refine WC.seq (WC.region (WL.assign rfl rfl (WL.nil (WX.then_normal (WC.ret (WX.then_ret (WX.block_ret (?_))))))))
        refine WX.then_ret (WX.then_ret (WX.block_ret (WX.then_ret (?_))))
        refine WX.ret1 (.inl rfl) Try.results4 rfl ?_
        exact ⟨_, rfl, rfl, hw⟩
      ·
        refine WL.pickF rfl rfl rfl (WL.move rfl rfl (WL.want rfl rfl rfl (WL.move rfl rfl (WL.want rfl rfl rfl (?_)))))
        refine WL.gtr? rfl rfl rfl (fun h39 => ?_) (fun h39 => ?_)
        ·
          refine WL.pickF rfl rfl rfl (WL.nil (WX.then_normal (WC.cond_true rfl (WC.seq (WC.region (WL.assign rfl rfl (WL.nil (?_))))))))
          refine WX.then_normal (WC.ret (WX.then_ret (WX.block_ret (WX.then_ret (WX.then_ret (WX.block_ret (WX.then_ret (?_))))))))
          refine WX.ret1 (.inl rfl) Try.results4 rfl ?_
          exact ⟨_, rfl, rfl, hw⟩
        ·
          refine WL.pickF rfl rfl rfl (WL.nil (WX.then_normal (WC.cond_false rfl (WC.skip (WX.then_normal (WC.seq (WC.region (?_))))))))
          refine WL.assign rfl rfl (WL.nil (WX.then_normal (WC.seq (WC.seq (WC.region (WL.assign rfl rfl (WL.nil (?_))))))))
          refine WX.then_normal (WC.block (?_))
          have hrl : r.xs.length = rs.length := by omega
          have hxl : xs.length = rs.length := by omega
          have hn8 : rs.length ≤ 8 := by omega
          refine WC.loop (σ := Nat) (fun k => [(0, .slice ao rs.length c), (1, .slice ax xs.length cx), (5, vi rs.length), (6, .pointer (some ⟨gf, 0, none⟩)), (7, .slice aq rgt.length cq), (8, vi (i : Int)), (9, v8 (sumF k (fun k => mul (fn (mx rs) i k) (xs.getD k 0)))), (10, vi (k : Int))])
            (fun k w' => k ≤ rs.length ∧ Row (fun b => gf < b) w' 5 eb aq cq rgt ∧ Fld w' gf ∧ RS (· < w.heap.size) w' ao c rs ∧ RSl (· < w.heap.size) w' eb ax cx xs ∧ Chg Nob w w') (fun k => rs.length - k) 0 ⟨rfl, rfl, rfl, rfl, rfl, rfl, rfl, rfl, trivial⟩ ⟨Nat.zero_le _, hq, hF, h, hx, hw⟩ ?_
          clear hF h hx hw hq
          rintro k w2 ⟨hk, hq, hF, h, hx, hw⟩
          have lgf := hF.lt
          refine WC.seq (WC.seq (WC.region (WL.move rfl rfl (WL.move rfl rfl (?_)))))
          refine WL.lss? rfl rfl rfl (fun h43 => ?_) (fun h43 => ?_)
          ·
            refine WL.nil (WX.then_normal (WC.cond_true rfl (WC.skip (WX.then_normal (WC.seq (WC.block (?_)))))))
            obtain ⟨a, ha⟩ : ∃ a, r.xs[k]? = some a := ⟨_, List.getElem?_eq_getElem (by omega)⟩
            obtain ⟨b, hb⟩ : ∃ b, xs[k]? = some b := ⟨_, List.getElem?_eq_getElem (by omega)⟩
            have hfa : fn (mx rs) i k = a := by rw [fn_mx hri, List.getD_eq_getElem?_getD, ha]; rfl
            have hxb : xs.getD k 0 = b := by rw [List.getD_eq_getElem?_getD, hb]; rfl
            obtain ⟨ob, oo2, ho⟩ := h.outer.place hri
            obtain ⟨ib, io, hio⟩ := (h.at hri).place ha
            obtain ⟨xb, xo, hxo⟩ := hx.place hb
            refine WC.draw (fun b => b = gf) [0, 1, 2, 3, 4, 5, 6, 7, 8, 9, 10, 11, 12] [13, 14, 15] mixed rfl rfl (fun wd_1 kd_1 zd_1 => ?_)
            have zs_kd_1 := kd_1.size
            replace hq := hq.pure kd_1
            replace hF := hF.pure kd_1
            replace h := h.pure kd_1
            replace hx := hx.pure kd_1
            replace hw := hw.pure kd_1
            apply DQ.step (E' := [(9, _)])
            case ho => rfl
            case hs => exact ⟨rfl, trivial⟩
            case hk => rfl
            case h1 =>
              intro wq_3 kq_3
              refine WL.move rfl rfl (?_)
              refine WL.nil ?_
              exact WX.one ⟨rfl, by first | exact Chg.refl _ _ | assumption⟩
            apply DQ.step (E' := [(6, _)])
            case ho => rfl
            case hs => exact ⟨rfl, trivial⟩
            case hk => rfl
            case h1 =>
              intro wq_4 kq_4
              refine WL.move rfl rfl (?_)
              refine WL.nil ?_
              exact WX.one ⟨rfl, by first | exact Chg.refl _ _ | assumption⟩
            apply DQ.step (E' := [(0, _)])
            case ho => rfl
            case hs => exact ⟨rfl, trivial⟩
            case hk => rfl
            case h1 =>
              intro wq_5 kq_5
              refine WL.move rfl rfl (?_)
              refine WL.nil ?_
              exact WX.one ⟨rfl, by first | exact Chg.refl _ _ | assumption⟩
            apply DQ.step (E' := [(8, _)])
            case ho => rfl
            case hs => exact ⟨rfl, trivial⟩
            case hk => rfl
            case h1 =>
              intro wq_6 kq_6
              refine WL.move rfl rfl (?_)
              refine WL.nil ?_
              exact WX.one ⟨rfl, by first | exact Chg.refl _ _ | assumption⟩
            apply DQ.step (E' := [(48, _), (49, _)])
            case ho => rfl
            case hs => exact ⟨rfl, rfl, trivial⟩
            case hk => rfl
            case h1 =>
              intro wq_7 kq_7
              have zs_kq_7 := kq_7.size
              replace hq := hq.chg kq_7 (by first | (intro x h1 h2; exact h2) | (intro x h1 h2; have h3 : _ = _ := h2; exfalso; omega) | (intro b h1 h2 h3; have h4 : _ = _ := h3; (try dsimp only at h2); exfalso; omega) | (intro h1; have h2 : _ = _ := h1; exfalso; omega) | (intros; exfalso; (try dsimp only at *); omega) | (intro b h1 h2 h3; exfalso; have h4 := h3.2; (try dsimp only at *); omega) | (intro h1; exfalso; have h4 := h1.2; (try dsimp only at *); omega))
              replace h := h.chg kq_7 (by first | (intro x h1 h2; exact h2) | (intro x h1 h2; have h3 : _ = _ := h2; exfalso; omega) | (intro b h1 h2 h3; have h4 : _ = _ := h3; (try dsimp only at h2); exfalso; omega) | (intro h1; have h2 : _ = _ := h1; exfalso; omega) | (intros; exfalso; (try dsimp only at *); omega) | (intro b h1 h2 h3; exfalso; have h4 := h3.2; (try dsimp only at *); omega) | (intro h1; exfalso; have h4 := h1.2; (try dsimp only at *); omega))
              replace hx := hx.chg kq_7 (by first | (intro x h1 h2; exact h2) | (intro x h1 h2; have h3 : _ = _ := h2; exfalso; omega) | (intro b h1 h2 h3; have h4 : _ = _ := h3; (try dsimp only at h2); exfalso; omega) | (intro h1; have h2 : _ = _ := h1; exfalso; omega) | (intros; exfalso; (try dsimp only at *); omega) | (intro b h1 h2 h3; exfalso; have h4 := h3.2; (try dsimp only at *); omega) | (intro h1; exfalso; have h4 := h1.2; (try dsimp only at *); omega))
              replace hw := hw.chg kq_7 (by first | (intro x h1 h2; exact h2) | (intro x h1 h2; have h3 : _ = _ := h2; exfalso; omega) | (intro b h1 h2 h3; have h4 : _ = _ := h3; (try dsimp only at h2); exfalso; omega) | (intro h1; have h2 : _ = _ := h1; exfalso; omega) | (intros; exfalso; (try dsimp only at *); omega) | (intro b h1 h2 h3; exfalso; have h4 := h3.2; (try dsimp only at *); omega) | (intro h1; exfalso; have h4 := h1.2; (try dsimp only at *); omega))
              have hO := h.outer
              rw [ho] at hO
              refine WL.indexC (e := erow) hO Try.underlying22 Try.sizeOf23 (by show some (Value.slice ao _ _) = _; rw [ho]) rfl ⟨hri, rfl⟩ rfl ?_
              refine WL.nil ?_
              exact WX.one ⟨rfl, by first | exact Chg.refl _ _ | assumption⟩
            apply DQ.step (E' := [(50, _)])
            case ho => rfl
            case hs => exact ⟨rfl, trivial⟩
            case hk => rfl
            case h1 =>
              intro wq_8 kq_8
              have zs_kq_8 := kq_8.size
              replace hq := hq.chg kq_8 (by first | (intro x h1 h2; exact h2) | (intro x h1 h2; have h3 : _ = _ := h2; exfalso; omega) | (intro b h1 h2 h3; have h4 : _ = _ := h3; (try dsimp only at h2); exfalso; omega) | (intro h1; have h2 : _ = _ := h1; exfalso; omega) | (intros; exfalso; (try dsimp only at *); omega) | (intro b h1 h2 h3; exfalso; have h4 := h3.2; (try dsimp only at *); omega) | (intro h1; exfalso; have h4 := h1.2; (try dsimp only at *); omega))
              replace h := h.chg kq_8 (by first | (intro x h1 h2; exact h2) | (intro x h1 h2; have h3 : _ = _ := h2; exfalso; omega) | (intro b h1 h2 h3; have h4 : _ = _ := h3; (try dsimp only at h2); exfalso; omega) | (intro h1; have h2 : _ = _ := h1; exfalso; omega) | (intros; exfalso; (try dsimp only at *); omega) | (intro b h1 h2 h3; exfalso; have h4 := h3.2; (try dsimp only at *); omega) | (intro h1; exfalso; have h4 := h1.2; (try dsimp only at *); omega))
              replace hx := hx.chg kq_8 (by first | (intro x h1 h2; exact h2) | (intro x h1 h2; have h3 : _ = _ := h2; exfalso; omega) | (intro b h1 h2 h3; have h4 : _ = _ := h3; (try dsimp only at h2); exfalso; omega) | (intro h1; have h2 : _ = _ := h1; exfalso; omega) | (intros; exfalso; (try dsimp only at *); omega) | (intro b h1 h2 h3; exfalso; have h4 := h3.2; (try dsimp only at *); omega) | (intro h1; exfalso; have h4 := h1.2; (try dsimp only at *); omega))
              replace hw := hw.chg kq_8 (by first | (intro x h1 h2; exact h2) | (intro x h1 h2; have h3 : _ = _ := h2; exfalso; omega) | (intro b h1 h2 h3; have h4 : _ = _ := h3; (try dsimp only at h2); exfalso; omega) | (intro h1; have h2 : _ = _ := h1; exfalso; omega) | (intros; exfalso; (try dsimp only at *); omega) | (intro b h1 h2 h3; exfalso; have h4 := h3.2; (try dsimp only at *); omega) | (intro h1; exfalso; have h4 := h1.2; (try dsimp only at *); omega))
              have hO := h.outer
              rw [ho] at hO
              refine WL.load Try.isAgg23 rfl ((hO.cellsAt hri) 0 _ rfl) rfl ?_
              refine WL.nil ?_
              exact WX.one ⟨rfl, by first | exact Chg.refl _ _ | assumption⟩
            apply DQ.step (E' := [(10, _)])
            case ho => rfl
            case hs => exact ⟨rfl, trivial⟩
            case hk => rfl
            case h1 =>
              intro wq_9 kq_9
              refine WL.move rfl rfl (?_)
              refine WL.nil ?_
              exact WX.one ⟨rfl, by first | exact Chg.refl _ _ | assumption⟩
            apply DQ.step (E' := [(51, _), (52, _)])
            case ho => rfl
            case hs => exact ⟨rfl, rfl, trivial⟩
            case hk => rfl
            case h1 =>
              intro wq_10 kq_10
              have zs_kq_10 := kq_10.size
              replace hq := hq.chg kq_10 (by first | (intro x h1 h2; exact h2) | (intro x h1 h2; have h3 : _ = _ := h2; exfalso; omega) | (intro b h1 h2 h3; have h4 : _ = _ := h3; (try dsimp only at h2); exfalso; omega) | (intro h1; have h2 : _ = _ := h1; exfalso; omega) | (intros; exfalso; (try dsimp only at *); omega) | (intro b h1 h2 h3; exfalso; have h4 := h3.2; (try dsimp only at *); omega) | (intro h1; exfalso; have h4 := h1.2; (try dsimp only at *); omega))
              replace h := h.chg kq_10 (by first | (intro x h1 h2; exact h2) | (intro x h1 h2; have h3 : _ = _ := h2; exfalso; omega) | (intro b h1 h2 h3; have h4 : _ = _ := h3; (try dsimp only at h2); exfalso; omega) | (intro h1; have h2 : _ = _ := h1; exfalso; omega) | (intros; exfalso; (try dsimp only at *); omega) | (intro b h1 h2 h3; exfalso; have h4 := h3.2; (try dsimp only at *); omega) | (intro h1; exfalso; have h4 := h1.2; (try dsimp only at *); omega))
              replace hx := hx.chg kq_10 (by first | (intro x h1 h2; exact h2) | (intro x h1 h2; have h3 : _ = _ := h2; exfalso; omega) | (intro b h1 h2 h3; have h4 : _ = _ := h3; (try dsimp only at h2); exfalso; omega) | (intro h1; have h2 : _ = _ := h1; exfalso; omega) | (intros; exfalso; (try dsimp only at *); omega) | (intro b h1 h2 h3; exfalso; have h4 := h3.2; (try dsimp only at *); omega) | (intro h1; exfalso; have h4 := h1.2; (try dsimp only at *); omega))
              replace hw := hw.chg kq_10 (by first | (intro x h1 h2; exact h2) | (intro x h1 h2; have h3 : _ = _ := h2; exfalso; omega) | (intro b h1 h2 h3; have h4 : _ = _ := h3; (try dsimp only at h2); exfalso; omega) | (intro h1; have h2 : _ = _ := h1; exfalso; omega) | (intros; exfalso; (try dsimp only at *); omega) | (intro b h1 h2 h3; exfalso; have h4 := h3.2; (try dsimp only at *); omega) | (intro h1; exfalso; have h4 := h1.2; (try dsimp only at *); omega))
              have hI := h.at hri
              rw [hio] at hI
              refine WL.indexC (e := eb) hI Try.underlying23 Try.sizeOf5 (by show some (Value.slice r.ao _ _) = _; rw [hio]) rfl ⟨ha, rfl⟩ rfl ?_
              refine WL.nil ?_
              exact WX.one ⟨rfl, by first | exact Chg.refl _ _ | assumption⟩
            apply DQ.step (E' := [(53, _)])
            case ho => rfl
            case hs => exact ⟨rfl, trivial⟩
            case hk => rfl
            case h1 =>
              intro wq_11 kq_11
              have zs_kq_11 := kq_11.size
              replace hq := hq.chg kq_11 (by first | (intro x h1 h2; exact h2) | (intro x h1 h2; have h3 : _ = _ := h2; exfalso; omega) | (intro b h1 h2 h3; have h4 : _ = _ := h3; (try dsimp only at h2); exfalso; omega) | (intro h1; have h2 : _ = _ := h1; exfalso; omega) | (intros; exfalso; (try dsimp only at *); omega) | (intro b h1 h2 h3; exfalso; have h4 := h3.2; (try dsimp only at *); omega) | (intro h1; exfalso; have h4 := h1.2; (try dsimp only at *); omega))
              replace h := h.chg kq_11 (by first | (intro x h1 h2; exact h2) | (intro x h1 h2; have h3 : _ = _ := h2; exfalso; omega) | (intro b h1 h2 h3; have h4 : _ = _ := h3; (try dsimp only at h2); exfalso; omega) | (intro h1; have h2 : _ = _ := h1; exfalso; omega) | (intros; exfalso; (try dsimp only at *); omega) | (intro b h1 h2 h3; exfalso; have h4 := h3.2; (try dsimp only at *); omega) | (intro h1; exfalso; have h4 := h1.2; (try dsimp only at *); omega))
              replace hx := hx.chg kq_11 (by first | (intro x h1 h2; exact h2) | (intro x h1 h2; have h3 : _ = _ := h2; exfalso; omega) | (intro b h1 h2 h3; have h4 : _ = _ := h3; (try dsimp only at h2); exfalso; omega) | (intro h1; have h2 : _ = _ := h1; exfalso; omega) | (intros; exfalso; (try dsimp only at *); omega) | (intro b h1 h2 h3; exfalso; have h4 := h3.2; (try dsimp only at *); omega) | (intro h1; exfalso; have h4 := h1.2; (try dsimp only at *); omega))
              replace hw := hw.chg kq_11 (by first | (intro x h1 h2; exact h2) | (intro x h1 h2; have h3 : _ = _ := h2; exfalso; omega) | (intro b h1 h2 h3; have h4 : _ = _ := h3; (try dsimp only at h2); exfalso; omega) | (intro h1; have h2 : _ = _ := h1; exfalso; omega) | (intros; exfalso; (try dsimp only at *); omega) | (intro b h1 h2 h3; exfalso; have h4 := h3.2; (try dsimp only at *); omega) | (intro h1; exfalso; have h4 := h1.2; (try dsimp only at *); omega))
              have hI := h.at hri
              rw [hio] at hI
              refine WL.load Try.isAgg5 rfl ((hI.cellsAt ha) 0 _ rfl) rfl ?_
              refine WL.nil ?_
              exact WX.one ⟨rfl, by first | exact Chg.refl _ _ | assumption⟩
            apply DQ.step (E' := [(1, _)])
            case ho => rfl
            case hs => exact ⟨rfl, trivial⟩
            case hk => rfl
            case h1 =>
              intro wq_12 kq_12
              refine WL.move rfl rfl (?_)
              refine WL.nil ?_
              exact WX.one ⟨rfl, by first | exact Chg.refl _ _ | assumption⟩
            apply DQ.step (E' := [(10, _)])
            case ho => rfl
            case hs => exact ⟨rfl, trivial⟩
            case hk => rfl
            case h1 =>
              intro wq_13 kq_13
              refine WL.move rfl rfl (?_)
              refine WL.nil ?_
              exact WX.one ⟨rfl, by first | exact Chg.refl _ _ | assumption⟩
            apply DQ.step (E' := [(55, _), (56, _)])
            case ho => rfl
            case hs => exact ⟨rfl, rfl, trivial⟩
            case hk => rfl
            case h1 =>
              intro wq_14 kq_14
              have zs_kq_14 := kq_14.size
              replace hq := hq.chg kq_14 (by first | (intro x h1 h2; exact h2) | (intro x h1 h2; have h3 : _ = _ := h2; exfalso; omega) | (intro b h1 h2 h3; have h4 : _ = _ := h3; (try dsimp only at h2); exfalso; omega) | (intro h1; have h2 : _ = _ := h1; exfalso; omega) | (intros; exfalso; (try dsimp only at *); omega) | (intro b h1 h2 h3; exfalso; have h4 := h3.2; (try dsimp only at *); omega) | (intro h1; exfalso; have h4 := h1.2; (try dsimp only at *); omega))
              replace h := h.chg kq_14 (by first | (intro x h1 h2; exact h2) | (intro x h1 h2; have h3 : _ = _ := h2; exfalso; omega) | (intro b h1 h2 h3; have h4 : _ = _ := h3; (try dsimp only at h2); exfalso; omega) | (intro h1; have h2 : _ = _ := h1; exfalso; omega) | (intros; exfalso; (try dsimp only at *); omega) | (intro b h1 h2 h3; exfalso; have h4 := h3.2; (try dsimp only at *); omega) | (intro h1; exfalso; have h4 := h1.2; (try dsimp only at *); omega))
              replace hx := hx.chg kq_14 (by first | (intro x h1 h2; exact h2) | (intro x h1 h2; have h3 : _ = _ := h2; exfalso; omega) | (intro b h1 h2 h3; have h4 : _ = _ := h3; (try dsimp only at h2); exfalso; omega) | (intro h1; have h2 : _ = _ := h1; exfalso; omega) | (intros; exfalso; (try dsimp only at *); omega) | (intro b h1 h2 h3; exfalso; have h4 := h3.2; (try dsimp only at *); omega) | (intro h1; exfalso; have h4 := h1.2; (try dsimp only at *); omega))
              replace hw := hw.chg kq_14 (by first | (intro x h1 h2; exact h2) | (intro x h1 h2; have h3 : _ = _ := h2; exfalso; omega) | (intro b h1 h2 h3; have h4 : _ = _ := h3; (try dsimp only at h2); exfalso; omega) | (intro h1; have h2 : _ = _ := h1; exfalso; omega) | (intros; exfalso; (try dsimp only at *); omega) | (intro b h1 h2 h3; exfalso; have h4 := h3.2; (try dsimp only at *); omega) | (intro h1; exfalso; have h4 := h1.2; (try dsimp only at *); omega))
              have hI := hx
              rw [hxo] at hI
              refine WL.indexC (e := eb) hI Try.underlying23 Try.sizeOf5 (by show some (Value.slice ax _ _) = _; rw [hxo]) rfl ⟨hb, rfl⟩ rfl ?_
              refine WL.nil ?_
              exact WX.one ⟨rfl, by first | exact Chg.refl _ _ | assumption⟩
            apply DQ.step (E' := [(57, _)])
            case ho => rfl
            case hs => exact ⟨rfl, trivial⟩
            case hk => rfl
            case h1 =>
              intro wq_15 kq_15
              have zs_kq_15 := kq_15.size
              replace hq := hq.chg kq_15 (by first | (intro x h1 h2; exact h2) | (intro x h1 h2; have h3 : _ = _ := h2; exfalso; omega) | (intro b h1 h2 h3; have h4 : _ = _ := h3; (try dsimp only at h2); exfalso; omega) | (intro h1; have h2 : _ = _ := h1; exfalso; omega) | (intros; exfalso; (try dsimp only at *); omega) | (intro b h1 h2 h3; exfalso; have h4 := h3.2; (try dsimp only at *); omega) | (intro h1; exfalso; have h4 := h1.2; (try dsimp only at *); omega))
              replace h := h.chg kq_15 (by first | (intro x h1 h2; exact h2) | (intro x h1 h2; have h3 : _ = _ := h2; exfalso; omega) | (intro b h1 h2 h3; have h4 : _ = _ := h3; (try dsimp only at h2); exfalso; omega) | (intro h1; have h2 : _ = _ := h1; exfalso; omega) | (intros; exfalso; (try dsimp only at *); omega) | (intro b h1 h2 h3; exfalso; have h4 := h3.2; (try dsimp only at *); omega) | (intro h1; exfalso; have h4 := h1.2; (try dsimp only at *); omega))
              replace hx := hx.chg kq_15 (by first | (intro x h1 h2; exact h2) | (intro x h1 h2; have h3 : _ = _ := h2; exfalso; omega) | (intro b h1 h2 h3; have h4 : _ = _ := h3; (try dsimp only at h2); exfalso; omega) | (intro h1; have h2 : _ = _ := h1; exfalso; omega) | (intros; exfalso; (try dsimp only at *); omega) | (intro b h1 h2 h3; exfalso; have h4 := h3.2; (try dsimp only at *); omega) | (intro h1; exfalso; have h4 := h1.2; (try dsimp only at *); omega))
              replace hw := hw.chg kq_15 (by first | (intro x h1 h2; exact h2) | (intro x h1 h2; have h3 : _ = _ := h2; exfalso; omega) | (intro b h1 h2 h3; have h4 : _ = _ := h3; (try dsimp only at h2); exfalso; omega) | (intro h1; have h2 : _ = _ := h1; exfalso; omega) | (intros; exfalso; (try dsimp only at *); omega) | (intro b h1 h2 h3; exfalso; have h4 := h3.2; (try dsimp only at *); omega) | (intro h1; exfalso; have h4 := h1.2; (try dsimp only at *); omega))
              have hI := hx
              rw [hxo] at hI
              refine WL.load Try.isAgg5 rfl ((hI.cellsAt hb) 0 _ rfl) rfl ?_
              refine WL.nil ?_
              exact WX.one ⟨rfl, by first | exact Chg.refl _ _ | assumption⟩
            refine DQ.done (fun hd_2 => ?_)
            refine DL.step [(47, _), (54, _), (58, _)] rfl ⟨rfl, rfl, rfl, trivial⟩ rfl (fun wq_16 kq_16 => ?_)
            have zs_kq_16 := kq_16.size
            replace hq := hq.pure kq_16
            replace hF := hF.pure kq_16
            replace h := h.pure kq_16
            replace hx := hx.pure kq_16
            replace hw := hw.pure kq_16
            replace hd_2 := hd_2.pure kq_16
            refine WL.call eg_15 rfl rfl (mul_calls hF a b) ?_
            rintro v w3 ⟨rfl, hF3, k3⟩
            have zs_k3 := k3.size
            replace hq := hq.chg k3 (by first | (intro x h1 h2; exact h2) | (intro x h1 h2; have h3 : _ = _ := h2; exfalso; omega) | (intro b h1 h2 h3; have h4 : _ = _ := h3; (try dsimp only at h2); exfalso; omega) | (intro h1; have h2 : _ = _ := h1; exfalso; omega) | (intros; exfalso; (try dsimp only at *); omega) | (intro b h1 h2 h3; exfalso; have h4 := h3.2; (try dsimp only at *); omega) | (intro h1; exfalso; have h4 := h1.2; (try dsimp only at *); omega))
            replace h := h.chg k3 (by first | (intro x h1 h2; exact h2) | (intro x h1 h2; have h3 : _ = _ := h2; exfalso; omega) | (intro b h1 h2 h3; have h4 : _ = _ := h3; (try dsimp only at h2); exfalso; omega) | (intro h1; have h2 : _ = _ := h1; exfalso; omega) | (intros; exfalso; (try dsimp only at *); omega) | (intro b h1 h2 h3; exfalso; have h4 := h3.2; (try dsimp only at *); omega) | (intro h1; exfalso; have h4 := h1.2; (try dsimp only at *); omega))
            replace hx := hx.chg k3 (by first | (intro x h1 h2; exact h2) | (intro x h1 h2; have h3 : _ = _ := h2; exfalso; omega) | (intro b h1 h2 h3; have h4 : _ = _ := h3; (try dsimp only at h2); exfalso; omega) | (intro h1; have h2 : _ = _ := h1; exfalso; omega) | (intros; exfalso; (try dsimp only at *); omega) | (intro b h1 h2 h3; exfalso; have h4 := h3.2; (try dsimp only at *); omega) | (intro h1; exfalso; have h4 := h1.2; (try dsimp only at *); omega))
            replace hw := hw.chg k3 (by first | (intro x h1 h2; exact h2) | (intro x h1 h2; have h3 : _ = _ := h2; exfalso; omega) | (intro b h1 h2 h3; have h4 : _ = _ := h3; (try dsimp only at h2); exfalso; omega) | (intro h1; have h2 : _ = _ := h1; exfalso; omega) | (intros; exfalso; (try dsimp only at *); omega) | (intro b h1 h2 h3; exfalso; have h4 := h3.2; (try dsimp only at *); omega) | (intro h1; exfalso; have h4 := h1.2; (try dsimp only at *); omega))
            replace hd_2 := hd_2.chg k3 (by first | (intro x h1 h2; exact h2) | (intro x h1 h2; have h3 : _ = _ := h2; exfalso; omega) | (intro b h1 h2 h3; have h4 : _ = _ := h3; (try dsimp only at h2); exfalso; omega) | (intro h1; have h2 : _ = _ := h1; exfalso; omega) | (intros; exfalso; (try dsimp only at *); omega) | (intro b h1 h2 h3; exfalso; have h4 := h3.2; (try dsimp only at *); omega) | (intro h1; exfalso; have h4 := h1.2; (try dsimp only at *); omega))
            refine WL.nil ?_
            refine WX.one ⟨hd_2, ?_⟩
            refine DL.step [(46, _), (59, _)] rfl ⟨rfl, rfl, trivial⟩ rfl (fun wq_17 kq_17 => ?_)
            have zs_kq_17 := kq_17.size
            replace hq := hq.pure kq_17
            replace h := h.pure kq_17
            replace hx := hx.pure kq_17
            replace hw := hw.pure kq_17
            replace hd_2 := hd_2.pure kq_17
            replace hF3 := hF3.pure kq_17
            refine WL.num rfl rfl (n_xor8 _ _ _ _) rfl (?_)
            refine WL.nil ?_
            refine WX.one ⟨hd_2, ?_⟩
            refine DL.step [(60, _)] rfl ⟨rfl, trivial⟩ rfl (fun wq_18 kq_18 => ?_)
            have zs_kq_18 := kq_18.size
            replace hq := hq.pure kq_18
            replace h := h.pure kq_18
            replace hx := hx.pure kq_18
            replace hw := hw.pure kq_18
            replace hd_2 := hd_2.pure kq_18
            replace hF3 := hF3.pure kq_18
            refine WL.assign rfl rfl (?_)
            refine WL.nil ?_
            refine WX.one ⟨hd_2, ?_⟩
            refine DL.done (fun we_19 ke_19 => ?_)
            have zs_ke_19 := ke_19.size
            replace hq := hq.pure ke_19
            replace h := h.pure ke_19
            replace hx := hx.pure ke_19
            replace hw := hw.pure ke_19
            replace hd_2 := hd_2.pure ke_19
            replace hF3 := hF3.pure ke_19
            refine WX.block_normal (WX.then_normal (WC.region (WL.move rfl rfl (WL.add64 rfl rfl (by first | omega | (constructor <;> omega)) rfl (WL.assign rfl rfl (WL.nil (?_)))))))
            first
              | exact WX.loop_next (k + 1) ⟨rfl, rfl, rfl, rfl, rfl, rfl, by rw [sumF, hfa, hxb]; rfl, rfl, trivial⟩ ⟨by omega, hq, hF3, h, hx, hw⟩ (by omega)
              | exact WX.loop_next (i + 1, a4, c4, rgt ++ [sumF rs.length (fun k => mul (fn (mx rs) i k) (xs.getD k 0))]) ⟨rfl, rfl, rfl, rfl, rfl, rfl, trivial⟩ ⟨⟨by show i + 1 ≤ _; omega, .inr ⟨hxl, hn8⟩⟩, ⟨by show (rgt ++ [_]).length = i + 1; simp [hql], fun j hj => (by
                  show (rgt ++ [_]).getD j 0 = _
                  rw [List.getD_eq_getElem?_getD]
                  rcases Nat.lt_or_ge j i with h1 | h1
                  ·
                    rw [List.getElem?_append_left (by omega), ← List.getD_eq_getElem?_getD]
                    exact hqv j h1
                  ·
                    have h2 : j < i + 1 := hj
                    rw [List.getElem?_append_right (by omega), show j - rgt.length = 0 by omega, show j = i by omega]
                    rfl), fun j r' hj hr' => (by
                  rcases Nat.lt_or_ge j i with h1 | h1
                  ·
                    exact hqr j r' h1 hr'
                  ·
                    have h2 : j < i + 1 := hj
                    rw [show j = i by omega, hri] at hr'
                    injection hr' with hr'
                    rw [← hr']; exact hrl)⟩, hq4, hF, h, hx, hw⟩ (by show rs.length - (i + 1) < rs.length - i; omega)
          ·
            refine WL.nil (WX.then_normal (WC.cond_false rfl (WC.exit (WX.then_exit (WX.then_exit (WX.block_here (WX.then_normal (?_))))))))
            refine WC.region (WL.move rfl rfl (WL.move rfl rfl (?_)))
            have hkn : k = rs.length := by omega
            subst hkn
            refine WL.build (e := eb) [sumF rs.length (fun k => mul (fn (mx rs) i k) (xs.getD k 0))] Try.underlying23 Try.sizeOf5 Try.zeroValue5 rfl rfl rfl (by first | (simp [Value.cells]; done) | (simp [Value.cells] <;> rfl) | (simp [Value.cells, eb, ei, es, ebool, e32, e64]; done)) (by decide) rfl ?_
            intro a_qn w_qn qn l_qn z_qn k_qn
            have zs_k_qn := k_qn.size
            replace hq := hq.pure k_qn
            replace hF := hF.pure k_qn
            replace h := h.pure k_qn
            replace hx := hx.pure k_qn
            replace hw := hw.pure k_qn
            refine WL.append (e := eb) (S := fun b => gf < b) info_5 rfl Try.underlying23 rfl rfl hq (qn.rsl.src Try.underlying23) (by show (rgt.length + 1) * 1 ≤ _ ∧ rgt.length + 1 ≤ _; constructor <;> omega) (fun b hb => by have := hF.lt; omega) rfl ?_
            intro a4 c4 w4 hq4 g4 nn4
            have k4 := g4.chg
            have zs_k4 := k4.size
            replace hF := hF.chg k4 (by first | (intro x h1 h2; exact h2) | (intro x h1 h2; have h3 : _ = _ := h2; exfalso; omega) | (intro b h1 h2 h3; have h4 : _ = _ := h3; (try dsimp only at h2); exfalso; omega) | (intro h1; have h2 : _ = _ := h1; exfalso; omega) | (intros; exfalso; (try dsimp only at *); omega) | (intro b h1 h2 h3; exfalso; have h4 := h3.2; (try dsimp only at *); omega) | (intro h1; exfalso; have h4 := h1.2; (try dsimp only at *); omega))
            replace h := h.chg k4 (by first | (intro x h1 h2; exact h2) | (intro x h1 h2; have h3 : _ = _ := h2; exfalso; omega) | (intro b h1 h2 h3; have h4 : _ = _ := h3; (try dsimp only at h2); exfalso; omega) | (intro h1; have h2 : _ = _ := h1; exfalso; omega) | (intros; exfalso; (try dsimp only at *); omega) | (intro b h1 h2 h3; exfalso; have h4 := h3.2; (try dsimp only at *); omega) | (intro h1; exfalso; have h4 := h1.2; (try dsimp only at *); omega))
            replace hx := hx.chg k4 (by first | (intro x h1 h2; exact h2) | (intro x h1 h2; have h3 : _ = _ := h2; exfalso; omega) | (intro b h1 h2 h3; have h4 : _ = _ := h3; (try dsimp only at h2); exfalso; omega) | (intro h1; have h2 : _ = _ := h1; exfalso; omega) | (intros; exfalso; (try dsimp only at *); omega) | (intro b h1 h2 h3; exfalso; have h4 := h3.2; (try dsimp only at *); omega) | (intro h1; exfalso; have h4 := h1.2; (try dsimp only at *); omega))
            replace hw := hw.chg k4 (by first | (intro x h1 h2; exact h2) | (intro x h1 h2; have h3 : _ = _ := h2; exfalso; omega) | (intro b h1 h2 h3; have h4 : _ = _ := h3; (try dsimp only at h2); exfalso; omega) | (intro h1; have h2 : _ = _ := h1; exfalso; omega) | (intros; exfalso; (try dsimp only at *); omega) | (intro b h1 h2 h3; exfalso; have h4 := h3.2; (try dsimp only at *); omega) | (intro h1; exfalso; have h4 := h1.2; (try dsimp only at *); omega))
            refine WL.assign rfl rfl (WL.nil (WX.block_normal (WX.then_normal (WC.region (WL.move rfl rfl (WL.add64 rfl rfl (by first | omega | (constructor <;> omega)) rfl (WL.assign rfl rfl (?_))))))))
            refine WL.nil (?_)
            first
              | exact WX.loop_next (k + 1) ⟨rfl, rfl, rfl, rfl, rfl, rfl, by rw [sumF, hfa, hxb]; rfl, rfl, trivial⟩ ⟨by omega, hq, hF3, h, hx, hw⟩ (by omega)
              | exact WX.loop_next (i + 1, a4, c4, rgt ++ [sumF rs.length (fun k => mul (fn (mx rs) i k) (xs.getD k 0))]) ⟨rfl, rfl, rfl, rfl, rfl, rfl, trivial⟩ ⟨⟨by show i + 1 ≤ _; omega, .inr ⟨hxl, hn8⟩⟩, ⟨by show (rgt ++ [_]).length = i + 1; simp [hql], fun j hj => (by
                  show (rgt ++ [_]).getD j 0 = _
                  rw [List.getD_eq_getElem?_getD]
                  rcases Nat.lt_or_ge j i with h1 | h1
                  ·
                    rw [List.getElem?_append_left (by omega), ← List.getD_eq_getElem?_getD]
                    exact hqv j h1
                  ·
                    have h2 : j < i + 1 := hj
                    rw [List.getElem?_append_right (by omega), show j - rgt.length = 0 by omega, show j = i by omega]
                    rfl), fun j r' hj hr' => (by
                  rcases Nat.lt_or_ge j i with h1 | h1
                  ·
                    exact hqr j r' h1 hr'
                  ·
                    have h2 : j < i + 1 := hj
                    rw [show j = i by omega, hri] at hr'
                    injection hr' with hr'
                    rw [← hr']; exact hrl)⟩, hq4, hF, h, hx, hw⟩ (by show rs.length - (i + 1) < rs.length - i; omega)
  ·
    refine WL.nil (WX.then_normal (WC.cond_false rfl (WC.exit (WX.then_exit (WX.then_exit (WX.block_here (WX.then_normal (?_))))))))
    refine WC.seq (WC.region (WL.move rfl rfl (WL.move rfl rfl (WL.move rfl rfl (?_)))))
    have hin : i = rs.length := by omega
    subst hin
    have hshape : 1 ≤ rs.length → ShapeOk (mx rs) rgt := fun h1 => ⟨by rw [hml]; omega, by rw [hml]; exact hql, fun z hz => by
      obtain ⟨j, hj, rfl⟩ := List.getElem_of_mem hz
      have hj2 : j < rs.length := by rw [← hml]; exact hj
      rw [hml, ← hqr j _ hj2 (List.getElem?_eq_getElem hj2)]
      simp [mx]⟩
    refine WL.call eg_14 rfl rfl (Solve_calls hF (h.mono (fun b hb => by omega)) (hq.rsl.mono (fun b hb => by omega)) hl1 (by omega)) ?_
    rintro v w5 ⟨⟨ay, cy, out, e, rfl, hS, hY⟩, hF5, k5⟩
    have zk5 := k5.size
    have zs_k5 := k5.size
    replace hq := hq.chg k5 (by first | (intro x h1 h2; exact h2) | (intro x h1 h2; have h3 : _ = _ := h2; exfalso; omega) | (intro b h1 h2 h3; have h4 : _ = _ := h3; (try dsimp only at h2); exfalso; omega) | (intro h1; have h2 : _ = _ := h1; exfalso; omega) | (intros; exfalso; (try dsimp only at *); omega) | (intro b h1 h2 h3; exfalso; have h4 := h3.2; (try dsimp only at *); omega) | (intro h1; exfalso; have h4 := h1.2; (try dsimp only at *); omega))
    replace h := h.chg k5 (by first | (intro x h1 h2; exact h2) | (intro x h1 h2; have h3 : _ = _ := h2; exfalso; omega) | (intro b h1 h2 h3; have h4 : _ = _ := h3; (try dsimp only at h2); exfalso; omega) | (intro h1; have h2 : _ = _ := h1; exfalso; omega) | (intros; exfalso; (try dsimp only at *); omega) | (intro b h1 h2 h3; exfalso; have h4 := h3.2; (try dsimp only at *); omega) | (intro h1; exfalso; have h4 := h1.2; (try dsimp only at *); omega))
    replace hx := hx.chg k5 (by first | (intro x h1 h2; exact h2) | (intro x h1 h2; have h3 : _ = _ := h2; exfalso; omega) | (intro b h1 h2 h3; have h4 : _ = _ := h3; (try dsimp only at h2); exfalso; omega) | (intro h1; have h2 : _ = _ := h1; exfalso; omega) | (intros; exfalso; (try dsimp only at *); omega) | (intro b h1 h2 h3; exfalso; have h4 := h3.2; (try dsimp only at *); omega) | (intro h1; exfalso; have h4 := h1.2; (try dsimp only at *); omega))
    replace hw := hw.chg k5 (by first | (intro x h1 h2; exact h2) | (intro x h1 h2; have h3 : _ = _ := h2; exfalso; omega) | (intro b h1 h2 h3; have h4 : _ = _ := h3; (try dsimp only at h2); exfalso; omega) | (intro h1; have h2 : _ = _ := h1; exfalso; omega) | (intros; exfalso; (try dsimp only at *); omega) | (intro b h1 h2 h3; exfalso; have h4 := h3.2; (try dsimp only at *); omega) | (intro h1; exfalso; have h4 := h1.2; (try dsimp only at *); omega))
    rcases hS with ⟨hns, rfl, rfl⟩ | ⟨hok, rfl, hol, hsol⟩ | ⟨hok, rfl, rfl, hker⟩
    ·
      have hn0 : rs.length = 0 := by
        rcases Nat.eq_zero_or_pos rs.length with h1 | h1
        ·
          exact h1
        ·
          exact absurd (hshape h1) hns
      refine WL.move rfl rfl (WL.extract rfl rfl rfl (WL.extract rfl rfl rfl (WL.assign rfl rfl (WL.assign rfl rfl (WL.nil (WX.then_normal (WC.seq (?_))))))))
      refine WC.seq (WC.region (WL.move rfl rfl (?_)))
      refine WL.eqlT rfl rfl rfl (by first | rfl | omega | decide) ?_
      refine WL.nil (WX.then_normal (WC.cond_true rfl (WC.seq (WC.region (WL.move rfl rfl (?_))))))
      refine WL.eqlT rfl rfl rfl (by first | rfl | omega | decide) ?_
      refine WL.assign rfl rfl (WL.nil (WX.then_normal (WC.ret (WX.then_ret (?_)))))
      refine WX.ret1 (.inl rfl) Try.results4 rfl ?_
      exact ⟨_, rfl, rfl, hw⟩
    ·
      have hn1 : 1 ≤ rs.length := by have := hok.1; rw [hml] at this; omega
      have heq : out = xs := SolR.holds (.inr (.inl ⟨hok, rfl, hol, hsol⟩)) (by rw [hml]; omega) (fun i hi => by rw [hml] at hi ⊢; exact (hqv i hi).symm)
      refine WL.move rfl rfl (WL.extract rfl rfl rfl (WL.extract rfl rfl rfl (WL.assign rfl rfl (WL.assign rfl rfl (WL.nil (WX.then_normal (WC.seq (?_))))))))
      refine WC.seq (WC.region (WL.move rfl rfl (?_)))
      refine WL.eqlF rfl rfl rfl (by first | rfl | omega | decide) ?_
      refine WL.nil (WX.then_normal (WC.cond_false rfl (WC.skip (WX.then_normal (WC.seq (WC.seq (WC.region (?_))))))))
      refine WL.move rfl rfl (?_)
      refine WL.eqlT rfl rfl rfl (by first | rfl | omega | decide) ?_
      refine WL.nil (WX.then_normal (WC.cond_true rfl (WC.seq (WC.region (WL.move rfl rfl (?_))))))
      refine WL.toStr Try.underlying23 Try.underlying5 Try.underlying9 hY.rsl rfl rfl ?_
      refine WL.move rfl rfl (?_)
      refine WL.toStr Try.underlying23 Try.underlying5 Try.underlying9 hx rfl rfl ?_
      refine WL.seql rfl rfl rfl ?_
      refine WL.assign rfl rfl (WL.nil (WX.then_normal (WC.ret (WX.then_ret (?_)))))
      refine WX.ret1 (.inl rfl) Try.results4 rfl ?_
      refine ⟨_, rfl, ?_, hw⟩
      rw [decide_eq_true (bytes_eq.2 heq)]
    ·
      have hn1 : 1 ≤ rs.length := by have := hok.1; rw [hml] at this; omega
      have hS7 : SolR (mx rs) rgt [] 7 := .inr (.inr ⟨hok, rfl, rfl, hker⟩)
      have hok2 : ShapeOk (mx rs) (List.replicate rs.length 0) := ⟨hok.1, by rw [hml, List.length_replicate], hok.2.2⟩
      refine WL.move rfl rfl (WL.extract rfl rfl rfl (WL.extract rfl rfl rfl (WL.assign rfl rfl (WL.assign rfl rfl (WL.nil (WX.then_normal (WC.seq (?_))))))))
      refine WC.seq (WC.region (WL.move rfl rfl (?_)))
      refine WL.eqlF rfl rfl rfl (by first | rfl | omega | decide) ?_
      refine WL.nil (WX.then_normal (WC.cond_false rfl (WC.skip (WX.then_normal (WC.seq (WC.seq (WC.region (?_))))))))
      refine WL.move rfl rfl (?_)
      refine WL.eqlF rfl rfl rfl (by first | rfl | omega | decide) ?_
      refine WL.nil (WX.then_normal (WC.cond_false rfl (WC.skip (WX.then_normal (WC.seq (WC.seq (WC.region (?_))))))))
      refine WL.move rfl rfl (?_)
      refine WL.neqF rfl rfl rfl (by first | rfl | omega | decide) ?_
      refine WL.move rfl rfl (WL.want rfl rfl rfl (WL.move rfl rfl (WL.want rfl rfl rfl (WL.len Try.underlying23 rfl rfl (WL.want rfl rfl rfl (?_))))))
      refine WL.neqF rfl rfl rfl (by first | rfl | omega | decide) ?_
      refine WL.pickF rfl rfl rfl (WL.nil (WX.then_normal (WC.cond_false rfl (WC.skip (WX.then_normal (WC.seq (WC.region (?_))))))))
      refine WL.move rfl rfl (WL.move rfl rfl (WL.move rfl rfl (?_)))
      refine WL.make (e := eb) (0 : UInt8) rs.length rs.length Try.underlying23 info_5 rfl rfl rfl ⟨rfl, rfl, Nat.le_refl _⟩ (by constructor <;> omega) rfl ?_
      intro g6 w6 hO6 k6 z6 e6
      have zs_k6 := k6.size
      replace hq := hq.pure k6
      replace h := h.pure k6
      replace hx := hx.pure k6
      replace hw := hw.pure k6
      replace hF5 := hF5.pure k6
      replace hY := hY.pure k6
      have lgf5 := hF5.lt
      refine WL.call eg_14 rfl rfl (Solve_calls hF5 (h.mono (fun b hb => by omega)) (hO6.rsl.mono (S' := fun b => b ≠ gf) (fun b hb => by omega)) hl1 (by rw [List.length_replicate]; omega)) ?_
      rintro v w7 ⟨⟨ay2, cy2, out2, e2, rfl, hS2, hY2⟩, hF7, k7⟩
      have zk7 := k7.size
      obtain ⟨rfl, rfl⟩ := SolR.miss2 hS7 hS2 hok2
      replace hw := hw.chg k7 (fun x h1 h2 => by have h3 : x = gf := h2; omega)
      refine WL.move rfl rfl (WL.extract rfl rfl rfl (WL.extract rfl rfl rfl (WL.assign rfl rfl (WL.assign rfl rfl (WL.nil (WX.then_normal (WC.seq (?_))))))))
      refine WC.region (WL.move rfl rfl (?_))
      refine WL.eqlT rfl rfl rfl (by first | rfl | omega | decide) ?_
      refine WL.move rfl rfl (WL.want rfl rfl rfl (WL.move rfl rfl (WL.want rfl rfl rfl (WL.len Try.underlying23 rfl rfl (WL.want rfl rfl rfl (?_))))))
      refine WL.eqlT rfl rfl rfl (by first | rfl | omega | decide) ?_
      refine WL.pickT rfl rfl rfl (WL.assign rfl rfl (WL.nil (WX.then_normal (WC.ret (?_)))))
      refine WX.ret1 (.inl rfl) Try.results4 rfl ?_
      exact ⟨_, rfl, rfl, hw⟩
end Go.Proofs.Ytjdbjdgobhjbkaa
namespace Go.Proofs.Ytjdbjdgobhjbkaa
open Go.RowKit Go.HL

set_option maxHeartbeats 8000000 in
theorem rSolve_calls {S : Nat → Prop} {w : World} {c cr : Nat} {ao ar : Option Addr} {rs : List Rw} {rgt : List UInt8} (h : RS S w ao c rs) (hr : RSl S w eb ar cr rgt) (hl1 : rs.length ≤ 9223372036854775807) :
    Calls Try.prog 12 [.slice ao rs.length c, .slice ar rgt.length cr].toArray w (Ret fun v w' => (∃ ao2 c2 out e, v = .tuple #[.slice ao2 out.length c2, vi e] ∧ SolR (mx rs) rgt out e ∧ Row (w.heap.size ≤ ·) w' 5 eb ao2 c2 out) ∧ Chg Nob w w') := by
  have hw := Chg.refl Nob w
  have hml := mx_len rs
  replace h := h.old
  replace hr := hr.old
  obtain ⟨d, hd⟩ : ∃ d, d = det rs.length (fn (mx rs)) := ⟨_, rfl⟩
  refine Calls.of_WC Try.func12 rfl Try.ntmps12 (by simp) ?_
  refine WC.seq (WC.region (WL.assign rfl rfl (WL.assign rfl rfl (WL.nil (WX.then_normal (WC.seq (WC.seq (?_))))))))
  refine WC.region (WL.move rfl rfl (WL.move rfl rfl (?_)))
  refine WL.call eg_24 rfl rfl (Right_calls h hl1) ?_
  rintro v w1 ⟨⟨b, rfl, hb⟩, k1⟩
  have zs_k1 := k1.size
  replace h := h.pure k1
  replace hr := hr.pure k1
  replace hw := hw.pure k1
  refine WL.not rfl rfl (WL.nil (WX.then_normal (?_)))
  first | refine WC.cond_dec rfl (fun hc17 => ?_) (fun hc17 => ?_) | refine WC.cond_split rfl (fun hc17 => ?_) (fun hc17 => ?_)
  ·
    refine WC.seq (WC.region (WL.assign rfl rfl (WL.assign rfl rfl (WL.nil (WX.then_normal (WC.ret (WX.then_ret (?_))))))))
    refine WX.ret2 (.inl rfl) Try.results12 rfl rfl ?_
    exact ⟨_, rfl, ⟨none, 0, [], 1, rfl, .inl ⟨(fun hs => by rw [hb.2 hs] at hc17; cases hc17), rfl, rfl⟩, Row.nil _ _ _ _⟩, hw⟩
  ·
    refine WC.skip (WX.then_normal (WC.seq (WC.region (WL.move rfl rfl (?_)))))
    have hsh : ShapeOk (mx rs) rgt := hb.1 (by cases b with | true => rfl | false => cases hc17)
    have hn8 : 1 ≤ rs.length ∧ rs.length ≤ 8 := by have := hsh.1; rw [hml] at this; exact this
    have hrl : rgt.length = rs.length := by have := hsh.2.1; rw [hml] at this; exact this
    have hrows : ∀ r ∈ rs, r.xs.length = rs.length := fun r hr => by have := hsh.2.2 r.xs (List.mem_map.2 ⟨r, hr, rfl⟩); rw [hml] at this; exact this
    refine WL.call eg_25 rfl rfl (Det_calls rs.length rfl hn8.2 hrows h) ?_
    rintro v w2 ⟨rfl, k2⟩
    rw [← hd]
    have zs_k2 := k2.size
    replace h := h.pure k2
    replace hr := hr.pure k2
    replace hw := hw.pure k2
    refine WL.assign rfl rfl (WL.nil (WX.then_normal (WC.seq (WC.region (WL.move rfl rfl (?_))))))
    refine WL.call eg_26 rfl rfl (refInv_calls d _) ?_
    rintro v w3 ⟨rfl, k3⟩
    have zs_k3 := k3.size
    replace h := h.pure k3
    replace hr := hr.pure k3
    replace hw := hw.pure k3
    by_cases hd0 : d = 0
    ·
      rw [if_pos hd0]
      refine WL.move rfl rfl (WL.extract rfl rfl rfl (WL.extract rfl rfl rfl (WL.assign rfl rfl (WL.assign rfl rfl (WL.nil (WX.then_normal (WC.seq (?_))))))))
      refine WC.seq (WC.region (WL.move rfl rfl (?_)))
      refine WL.neqT rfl rfl rfl (by first | rfl | omega | decide) ?_
      refine WL.nil (WX.then_normal (WC.cond_true rfl (WC.seq (WC.region (WL.assign rfl rfl (WL.assign rfl rfl (WL.nil (?_))))))))
      refine WX.then_normal (WC.ret (WX.then_ret (?_)))
      refine WX.ret2 (.inl rfl) Try.results12 rfl rfl ?_
      refine ⟨_, rfl, ⟨none, 0, [], 7, rfl, .inr (.inr ⟨hsh, rfl, rfl, ?_⟩), Row.nil _ _ _ _⟩, hw⟩
      rw [hml]
      exact det_miss (hd.symm.trans hd0)
    ·
      rw [if_neg hd0]
      refine WL.move rfl rfl (WL.extract rfl rfl rfl (WL.extract rfl rfl rfl (WL.assign rfl rfl (WL.assign rfl rfl (WL.nil (WX.then_normal (WC.seq (?_))))))))
      refine WC.seq (WC.region (WL.move rfl rfl (?_)))
      refine WL.neqF rfl rfl rfl (by first | rfl | omega | decide) ?_
      refine WL.nil (WX.then_normal (WC.cond_false rfl (WC.skip (WX.then_normal (WC.seq (WC.region (WL.assign rfl rfl (?_))))))))
      refine WL.nil (WX.then_normal (WC.seq (WC.seq (WC.region (WL.assign rfl rfl (WL.nil (WX.then_normal (?_))))))))
      refine WC.block (?_)
      have zw0 := hw.size
      refine WC.loop (σ := Nat × (Option Addr × Nat × List UInt8)) (fun q => [(0, .slice ao rs.length c), (1, .slice ar rgt.length cr), (7, v8 (inv d)), (9, .slice q.2.1 q.2.2.2.length q.2.2.1), (10, vi (q.1 : Int))])
        (fun q w' => q.1 ≤ rs.length ∧ (q.2.2.2.length = q.1 ∧ ∀ p, p < q.1 → q.2.2.2.getD p 0 = mul (inv d) (det rs.length (setc (fn (mx rs)) p (fun i => rgt.getD i 0)))) ∧ Row (fun b => w.heap.size ≤ b) w' 5 eb q.2.1 q.2.2.1 q.2.2.2 ∧ RS (· < w.heap.size) w' ao c rs ∧ RSl (· < w.heap.size) w' eb ar cr rgt ∧ Chg Nob w w') (fun q => rs.length - q.1) (0, none, 0, []) ⟨rfl, rfl, rfl, rfl, rfl, trivial⟩ ⟨Nat.zero_le _, ⟨rfl, fun p hp => absurd hp (Nat.not_lt_zero p)⟩, Row.nil _ _ _ _, h, hr, hw⟩ ?_
      clear h hr hw
      rintro ⟨k, ax, cx, out⟩ w2 ⟨hk, ⟨hol, hov⟩, hO, h, hr, hw⟩
      simp only at hk hol hov hO
      dsimp only
      refine WC.seq (WC.seq (WC.region (WL.move rfl rfl (WL.move rfl rfl (WL.len Try.underlying22 rfl rfl (?_))))))
      refine WL.lss? rfl rfl rfl (fun h30 => ?_) (fun h30 => ?_)
      ·
        refine WL.nil (WX.then_normal (WC.cond_true rfl (WC.skip (WX.then_normal (WC.seq (WC.block (WC.seq (?_))))))))
        refine WC.region (WL.assign rfl rfl (WL.nil (WX.then_normal (WC.seq (WC.seq (WC.region (WL.assign rfl rfl (?_))))))))
        refine WL.nil (WX.then_normal (WC.block (?_)))
        obtain ⟨n0, hn0⟩ : ∃ n, n = w2.heap.size := ⟨_, rfl⟩
        have hwn0 : w.heap.size ≤ n0 := by have := hw.size; omega
        have hO1 := hO.lt
        rw [← hn0] at hO1
        refine WC.loop (σ := Nat × (Option Addr × Nat × Nat × List Rw)) (fun q => [(0, .slice ao rs.length c), (1, .slice ar rgt.length cr), (7, v8 (inv d)), (9, .slice ax out.length cx), (10, vi (k : Int)), (11, .slice q.2.1 q.2.2.2.2.length q.2.2.1), (12, vi (q.1 : Int))])
          (fun q w' => q.1 ≤ rs.length ∧ (q.2.2.2.2.length = q.1 ∧ ∀ (j : Nat) (r z : Rw), rs[j]? = some r → q.2.2.2.2[j]? = some z → z.xs = r.xs.set k (rgt.getD j 0)) ∧ CR n0 q.2.2.2.1 w' 23 q.2.1 q.2.2.1 q.2.2.2.2 ∧ (n0 ≤ q.2.2.2.1 ∧ q.2.2.2.1 ≤ w'.heap.size) ∧ Row (fun b => w.heap.size ≤ b ∧ b < n0) w' 5 eb ax cx out ∧ RS (· < w.heap.size) w' ao c rs ∧ RSl (· < w.heap.size) w' eb ar cr rgt ∧ Chg Nob w w') (fun q => rs.length - q.1) (0, none, 0, n0, []) ⟨rfl, rfl, rfl, rfl, rfl, rfl, rfl, trivial⟩ ⟨Nat.zero_le _, ⟨rfl, fun j r z _ hz => by simp at hz⟩, CR.nil _ _ _ _, ⟨Nat.le_refl _, by show n0 ≤ _; omega⟩, hO1, h, hr, hw⟩ ?_
        clear hO hO1 h hr hw hn0
        rintro ⟨i, am, cm, n1, ms⟩ w4 ⟨hi, ⟨hmsl, hms⟩, hC, ⟨hwn, hn1⟩, hO, h, hr, hw⟩
        simp only at hi hmsl hms hC hwn hn1
        dsimp only
        refine WC.seq (WC.seq (WC.region (WL.move rfl rfl (WL.move rfl rfl (WL.len Try.underlying22 rfl rfl (?_))))))
        refine WL.lss? rfl rfl rfl (fun h36 => ?_) (fun h36 => ?_)
        ·
          refine WL.nil (WX.then_normal (WC.cond_true rfl (WC.skip (WX.then_normal (WC.seq (WC.block (WC.seq (?_))))))))
          refine WC.region (?_)
          obtain ⟨r, hri⟩ : ∃ r, rs[i]? = some r := ⟨_, List.getElem?_eq_getElem (by omega)⟩
          have hril := hrows r (List.mem_of_getElem? hri)
          obtain ⟨y, hy⟩ : ∃ y, rgt[i]? = some y := ⟨_, List.getElem?_eq_getElem (by omega)⟩
          have hyd : rgt.getD i 0 = y := by rw [List.getD_eq_getElem?_getD, hy]; rfl
          refine WL.build (e := eb) [] Try.underlying23 Try.sizeOf5 Try.zeroValue5 rfl rfl rfl (by first | (simp [Value.cells]; done) | (simp [Value.cells] <;> rfl) | (simp [Value.cells, eb, ei, es, ebool, e32, e64]; done)) (by decide) rfl ?_
          intro a_hq w_hq hq l_hq z_hq k_hq
          have zs_k_hq := k_hq.size
          replace hC := hC.pure k_hq
          replace hO := hO.pure k_hq
          replace h := h.pure k_hq
          replace hr := hr.pure k_hq
          replace hw := hw.pure k_hq
          refine WL.move rfl rfl (WL.move rfl rfl (?_))
          refine WL.indexT (e := erow) Try.underlying22 Try.sizeOf23 h.outer rfl rfl ⟨hri, rfl⟩ rfl ?_
          intro bb oo hcc
          refine WL.load Try.isAgg23 rfl (hcc 0 _ rfl) rfl ?_
          refine WL.append (e := eb) (xs := []) (S := fun b => n1 ≤ b) info_5 rfl Try.underlying23 rfl rfl (hq.mono (fun b hb => by omega)) ((h.at hri).src Try.underlying23) (by show (0 + r.xs.length) * 1 ≤ _ ∧ 0 + r.xs.length ≤ _; constructor <;> omega) (fun b hb => by omega) rfl ?_
          intro a9 c9 w9 hQ g9 n9
          have k9 := g9.chg.mono (M' := fun x => n1 ≤ x) (fun x _ hx => hx.2)
          have zk9 := k9.size
          replace hC := hC.chg k9 (fun x h1 h2 => by have h3 : n1 ≤ x := h2; omega)
          replace hO := hO.chg k9 (fun b _ h1 h2 => by have h3 : n1 ≤ b := h2; omega)
          replace h := h.chg k9 (fun b _ h1 h2 => by have h3 : n1 ≤ b := h2; omega)
          replace hr := hr.chg k9 (fun b _ h1 h2 => by have h3 : n1 ≤ b := h2; omega)
          replace hw := hw.chg k9 (fun b h1 h2 => by have h3 : n1 ≤ b := h2; omega)
          have hQ' : Row (fun b => n1 ≤ b) w9 5 eb a9 c9 r.xs := hQ
          refine WL.assign rfl rfl (WL.nil (WX.then_normal (WC.seq (WC.region (WL.move rfl rfl (WL.move rfl rfl (WL.move rfl rfl (?_))))))))
          refine WL.move rfl rfl (?_)
          refine WL.indexT (e := eb) Try.underlying23 Try.sizeOf5 hr rfl rfl ⟨hy, rfl⟩ rfl ?_
          intro bb2 oo2 hcc2
          refine WL.load Try.isAgg5 rfl (hcc2 0 _ rfl) rfl ?_
          obtain ⟨g9b, hg9⟩ := hQ'.place0 (j := k) (by omega)
          have hgl : n1 ≤ g9b := hQ'.at_ _ hg9
          have hQ2 := hQ'
          rw [hg9] at hQ2
          refine WL.index (j := k) (sz := 1) Try.underlying23 Try.sizeOf5 (by show some (Value.slice a9 _ _) = some (Value.slice (some ⟨g9b, 0, none⟩) _ _); rw [hg9]) rfl rfl (by show k < ([] ++ r.xs).length; rw [List.nil_append]; omega) rfl ?_
          refine WL.storeRow (z := y) k Try.sizeOf5 hQ2 rfl rfl rfl (by show 0 + k * 1 = k; omega) (by omega) rfl ?_
          intro w10 z10 hQ3 k10
          replace hC := hC.chg k10 (fun x h1 h2 => by have h3 : x = g9b := h2; omega)
          replace hO := hO.chg k10 (fun b _ h1 h2 => by have h3 : b = g9b := h2; omega)
          replace h := h.chg k10 (fun b _ h1 h2 => by have h3 : b = g9b := h2; omega)
          replace hr := hr.chg k10 (fun b _ h1 h2 => by have h3 : b = g9b := h2; omega)
          replace hw := hw.chg k10 (fun b h1 h2 => by have h3 : b = g9b := h2; omega)
          refine WL.nil (WX.then_normal (WC.region (WL.move rfl rfl (WL.move rfl rfl (?_)))))
          have hsl : (r.xs.set k y).length = ([] ++ r.xs).length := by rw [List.length_set, List.nil_append]
          refine WL.build (e := erow) [(⟨a9, c9, r.xs.set k y⟩ : Rw)] Try.underlying22 Try.sizeOf23 Try.zeroValue23 rfl rfl (by simp [erow, Enc.all, Value.cells]) (by simp [Value.cells]; rfl) (by decide) rfl ?_
          intro aqr wqr hqr lqr zqr kqr
          have zs_kqr := kqr.size
          replace hC := hC.pure kqr
          replace hO := hO.pure kqr
          replace h := h.pure kqr
          replace hr := hr.pure kqr
          replace hw := hw.pure kqr
          replace hQ3 := hQ3.pure kqr
          refine WL.append (e := erow) (S := fun b => n0 ≤ b) info_23 rfl Try.underlying22 rfl rfl (hC.outer.mono (fun b hb => hb.1)) (hqr.rsl.src Try.underlying22) (by show (ms.length + 1) * 24 ≤ _ ∧ ms.length + 1 ≤ _; constructor <;> omega) (fun b hb => by omega) rfl ?_
          intro a15 c15 w15 hO15 g15 n15
          have zk15 := g15.chg.size
          have hQ4 := hQ3
          rw [← hg9] at hQ4
          have hC15 := hC.snoc (r := ⟨a9, c9, r.xs.set k y⟩) hQ4.lt.rsl hwn (by omega) hO15 g15
          replace hO := hO.chg g15.chg (fun b _ h1 h2 => by have h3 := h1.2; have h4 := h2.2; omega)
          replace h := h.chg g15.chg (fun b _ h1 h2 => by have h4 := h2.2; omega)
          replace hr := hr.chg g15.chg (fun b _ h1 h2 => by have h4 := h2.2; omega)
          replace hw := hw.chg g15.chg (fun b h1 h2 => by have h4 := h2.2; omega)
          refine WL.assign rfl rfl (WL.nil (WX.block_normal (WX.then_normal (WC.region (WL.move rfl rfl (WL.add64 rfl rfl (by first | omega | (constructor <;> omega)) rfl (WL.assign rfl rfl (?_))))))))
          refine WL.nil (?_)
          first
            | exact WX.loop_next (i + 1, a15, c15, w15.heap.size, ms ++ [⟨a9, c9, r.xs.set k y⟩]) ⟨rfl, rfl, rfl, rfl, rfl, rfl, rfl, trivial⟩ ⟨by show i + 1 ≤ _; omega, ⟨by show (ms ++ [_]).length = _; simp [hmsl], fun j r' z hr' hz => (by
                rcases get_snoc hz with h1 | ⟨h1, h2⟩
                ·
                  exact hms j r' z hr' h1
                ·
                  rw [h1, hmsl, hri] at hr'
                  injection hr' with hr'
                  rw [h2, ← hr', h1, hmsl, hyd])⟩, hC15, ⟨by show n0 ≤ w15.heap.size; omega, Nat.le_refl _⟩, hO, h, hr, hw⟩ (by show rs.length - (i + 1) < rs.length - i; omega)
            | exact WX.loop_next (k + 1, a16, c16, out ++ [mul (inv d) (det rs.length (setc (fn (mx rs)) k (fun i => rgt.getD i 0)))]) ⟨rfl, rfl, rfl, rfl, rfl, trivial⟩ ⟨by show k + 1 ≤ _; omega, ⟨by show (out ++ [_]).length = _; simp [hol], fun p hp => (by
                show (out ++ [_]).getD p 0 = _
                rw [List.getD_eq_getElem?_getD]
                rcases Nat.lt_or_ge p k with h1 | h1
                ·
                  rw [List.getElem?_append_left (by omega), ← List.getD_eq_getElem?_getD]
                  exact hov p h1
                ·
                  have h2 : p < k + 1 := hp
                  rw [List.getElem?_append_right (by omega), show p - out.length = 0 by omega, show p = k by omega]
                  rfl)⟩, hO16, h, hr, hw⟩ (by show rs.length - (k + 1) < rs.length - k; omega)
        ·
          refine WL.nil (WX.then_normal (WC.cond_false rfl (WC.exit (WX.then_exit (WX.then_exit (WX.block_here (WX.then_normal (?_))))))))
          refine WC.region (WL.move rfl rfl (WL.move rfl rfl (WL.move rfl rfl (?_))))
          have hin : i = rs.length := by omega
          subst hin
          have hmrows : ∀ z ∈ ms, z.xs.length = rs.length := fun z hz => by
            obtain ⟨j, hj⟩ := List.getElem?_of_mem hz
            have hjl := (List.getElem?_eq_some_iff.1 hj).1
            obtain ⟨r, hrj⟩ : ∃ r, rs[j]? = some r := ⟨_, List.getElem?_eq_getElem (by omega)⟩
            rw [hms j r z hrj hj, List.length_set]
            exact hrows r (List.mem_of_getElem? hrj)
          have hdet : det rs.length (fn (mx ms)) = det rs.length (setc (fn (mx rs)) k (fun i => rgt.getD i 0)) := det_cong (fun p q hp hq => by
            obtain ⟨r, hrp⟩ : ∃ r, rs[p]? = some r := ⟨_, List.getElem?_eq_getElem (by omega)⟩
            obtain ⟨z, hz⟩ : ∃ z, ms[p]? = some z := ⟨_, List.getElem?_eq_getElem (by omega)⟩
            have h1 := hrows r (List.mem_of_getElem? hrp)
            rw [fn_mx hz, hms p r z hrp hz, List.getD_eq_getElem?_getD, List.getElem?_set]
            show _ = if q = k then rgt.getD p 0 else fn (mx rs) p q
            by_cases e : k = q
            ·
              rw [if_pos e, if_pos (by omega), if_pos e.symm]; rfl
            ·
              rw [if_neg e, if_neg (fun e2 => e e2.symm), ← List.getD_eq_getElem?_getD, fn_mx hrp])
          refine WL.call eg_25 rfl rfl (Det_calls rs.length hmsl hn8.2 hmrows hC.read) ?_
          rintro v w6 ⟨rfl, k6⟩
          rw [hdet]
          have zs_k6 := k6.size
          replace hO := hO.pure k6
          replace h := h.pure k6
          replace hr := hr.pure k6
          replace hw := hw.pure k6
          refine WL.call eg_27 rfl rfl (refMul_calls _ _ _) ?_
          rintro v w7 ⟨rfl, k7⟩
          have zs_k7 := k7.size
          replace hO := hO.pure k7
          replace h := h.pure k7
          replace hr := hr.pure k7
          replace hw := hw.pure k7
          refine WL.build (e := eb) [mul (inv d) (det rs.length (setc (fn (mx rs)) k (fun i => rgt.getD i 0)))] Try.underlying23 Try.sizeOf5 Try.zeroValue5 rfl rfl rfl (by first | (simp [Value.cells]; done) | (simp [Value.cells] <;> rfl) | (simp [Value.cells, eb, ei, es, ebool, e32, e64]; done)) (by decide) rfl ?_
          intro a_qn w_qn qn l_qn z_qn k_qn
          have zs_k_qn := k_qn.size
          replace hO := hO.pure k_qn
          replace h := h.pure k_qn
          replace hr := hr.pure k_qn
          replace hw := hw.pure k_qn
          refine WL.append (e := eb) (S := fun b => w.heap.size ≤ b) info_5 rfl Try.underlying23 rfl rfl (hO.mono (fun b hb => hb.1)) (qn.rsl.src Try.underlying23) (by show (out.length + 1) * 1 ≤ _ ∧ out.length + 1 ≤ _; constructor <;> omega) (fun b hb => by have := hw.size; omega) rfl ?_
          intro a16 c16 w16 hO16 g16 n16
          replace h := h.chg g16.chg (fun b _ h1 h2 => by have h4 := h2.2; omega)
          replace hr := hr.chg g16.chg (fun b _ h1 h2 => by have h4 := h2.2; omega)
          replace hw := hw.chg g16.chg (fun b h1 h2 => by have h4 := h2.2; omega)
          refine WL.assign rfl rfl (WL.nil (WX.block_normal (WX.then_normal (WC.region (WL.move rfl rfl (WL.add64 rfl rfl (by first | omega | (constructor <;> omega)) rfl (WL.assign rfl rfl (?_))))))))
          refine WL.nil (?_)
          first
            | exact WX.loop_next (i + 1, a15, c15, w15.heap.size, ms ++ [⟨a9, c9, r.xs.set k y⟩]) ⟨rfl, rfl, rfl, rfl, rfl, rfl, rfl, trivial⟩ ⟨by show i + 1 ≤ _; omega, ⟨by show (ms ++ [_]).length = _; simp [hmsl], fun j r' z hr' hz => (by
                rcases get_snoc hz with h1 | ⟨h1, h2⟩
                ·
                  exact hms j r' z hr' h1
                ·
                  rw [h1, hmsl, hri] at hr'
                  injection hr' with hr'
                  rw [h2, ← hr', h1, hmsl, hyd])⟩, hC15, ⟨by show n0 ≤ w15.heap.size; omega, Nat.le_refl _⟩, hO, h, hr, hw⟩ (by show rs.length - (i + 1) < rs.length - i; omega)
            | exact WX.loop_next (k + 1, a16, c16, out ++ [mul (inv d) (det rs.length (setc (fn (mx rs)) k (fun i => rgt.getD i 0)))]) ⟨rfl, rfl, rfl, rfl, rfl, trivial⟩ ⟨by show k + 1 ≤ _; omega, ⟨by show (out ++ [_]).length = _; simp [hol], fun p hp => (by
                show (out ++ [_]).getD p 0 = _
                rw [List.getD_eq_getElem?_getD]
                rcases Nat.lt_or_ge p k with h1 | h1
                ·
                  rw [List.getElem?_append_left (by omega), ← List.getD_eq_getElem?_getD]
                  exact hov p h1
                ·
                  have h2 : p < k + 1 := hp
                  rw [List.getElem?_append_right (by omega), show p - out.length = 0 by omega, show p = k by omega]
                  rfl)⟩, hO16, h, hr, hw⟩ (by show rs.length - (k + 1) < rs.length - k; omega)
      ·
        refine WL.nil (WX.then_normal (WC.cond_false rfl (WC.exit (WX.then_exit (WX.then_exit (WX.block_here (WX.then_normal (?_))))))))
        refine WC.seq (WC.region (WL.move rfl rfl (WL.assign rfl rfl (WL.assign rfl rfl (WL.nil (WX.then_normal (WC.ret (?_))))))))
        refine WX.ret2 (.inl rfl) Try.results12 rfl rfl ?_
        have hkn : k = rs.length := by omega
        subst hkn
        refine ⟨_, rfl, ⟨ax, cx, out, 0, rfl, .inr (.inl ⟨hsh, rfl, by rw [hml]; exact hol, fun z => ?_⟩), hO⟩, hw⟩
        rw [hml]
        refine (det_sol (r := fun i => rgt.getD i 0) (by rw [← hd]; exact hd0) z).trans ?_
        constructor
        ·
          intro hz p hp
          rw [hz p hp, hov p hp, hd]
        ·
          intro hz p hp
          rw [hz p hp, hov p hp, hd]
theorem FieldSolves_calls {w : World} {c cr : Nat} {ao ar : Option Addr} {rs : List Rw} {rgt : List UInt8} (h : RS (· < w.heap.size) w ao c rs) (hr : RSl (· < w.heap.size) w eb ar cr rgt) (hl1 : rs.length ≤ 9223372036854775807) (hl2 : rgt.length ≤ 9223372036854775807) :
    Calls Try.prog 3 [.slice ao rs.length c, .slice ar rgt.length cr].toArray w (Ret fun v w' => v = .bool true ∧ Chg Nob w w') := by
  have hw := Chg.refl Nob w
  refine Calls.of_WC Try.func3 rfl Try.ntmps3 (by simp) ?_
  refine WC.seq (WC.region (WL.assign rfl rfl (WL.nil (WX.then_normal (WC.seq (WC.seq (WC.region (?_))))))))
  refine WL.call eg_11 rfl rfl (known2_calls _) ?_
  rintro v w1 ⟨rfl, k1⟩
  have zs_k1 := k1.size
  replace h := h.pure k1
  replace hr := hr.pure k1
  replace hw := hw.pure k1
  refine WL.not rfl rfl (WL.nil (WX.then_normal (WC.cond_false rfl (WC.skip (WX.then_normal (WC.seq (WC.seq (?_))))))))
  refine WC.region (WL.move rfl rfl (WL.len Try.underlying22 rfl rfl (?_)))
  refine WL.gtr? rfl rfl rfl (fun h13 => ?_) (fun h13 => ?_)
  ·
    refine WL.move rfl rfl (WL.want rfl rfl rfl (WL.move rfl rfl (WL.want rfl rfl rfl (WL.len Try.underlying22 rfl rfl (WL.want rfl rfl rfl (?_))))))
    refine WL.leq? rfl rfl rfl (fun h17 => ?_) (fun h17 => ?_)
    ·
      refine WL.pickT rfl rfl rfl (WL.nil (WX.then_normal (WC.cond_true rfl (WC.seq (WC.region (WL.assign rfl rfl (WL.nil (?_))))))))
      refine WX.then_normal (WC.ret (WX.then_ret (?_)))
      refine WX.ret1 (.inl rfl) Try.results3 rfl ?_
      exact ⟨_, rfl, rfl, hw⟩
    ·
      refine WL.pickT rfl rfl rfl (WL.nil (WX.then_normal (WC.cond_false rfl (WC.skip (WX.then_normal (WC.seq (WC.region (?_))))))))
      refine WL.move rfl rfl (WL.move rfl rfl (?_))
      refine WL.call eg_12 rfl rfl (rSolve_calls h hr hl1) ?_
      rintro v w2 ⟨⟨a1, c1, o1, e1, rfl, hS1, hO1⟩, k2⟩
      have zk2 := k2.size
      have zs_k2 := k2.size
      replace h := h.pure k2
      replace hr := hr.pure k2
      replace hw := hw.pure k2
      replace hO1 := hO1.lt
      refine WL.move rfl rfl (WL.extract rfl rfl rfl (WL.extract rfl rfl rfl (WL.assign rfl rfl (WL.assign rfl rfl (WL.nil (WX.then_normal (WC.seq (?_))))))))
      refine WC.region (?_)
      refine WL.call eg_13 rfl rfl (fresh_calls _) ?_
      rintro v w3 ⟨⟨gf, rfl, hF, hgf⟩, k3⟩
      have hgw : w.heap.size ≤ gf := by have := hw.size; omega
      have hgo1 : w2.heap.size ≤ gf := hgf
      have zs_k3 := k3.size
      replace h := h.pure k3
      replace hr := hr.pure k3
      replace hw := hw.pure k3
      replace hO1 := hO1.pure k3
      refine WL.move rfl rfl (WL.move rfl rfl (?_))
      refine WL.call eg_14 rfl rfl (Solve_calls hF (h.mono (fun b hb => by omega)) (hr.mono (S' := fun b => b ≠ gf) (fun b hb => by omega)) hl1 hl2) ?_
      rintro v w5 ⟨⟨a2, c2, o2, e2, rfl, hS2, hO2⟩, hF5, k5⟩
      obtain ⟨rfl, rfl⟩ := hS1.uniq hS2
      replace hw := hw.chg k5 (fun x h1 h2 => by have h3 : x = gf := h2; omega)
      replace hO1 := hO1.chg k5 (fun b _ h1 h2 => by have h3 : b = gf := h2; have := h1.2; omega)
      refine WL.move rfl rfl (WL.extract rfl rfl rfl (WL.extract rfl rfl rfl (WL.assign rfl rfl (WL.assign rfl rfl (WL.nil (WX.then_normal (WC.seq (?_))))))))
      refine WC.region (WL.move rfl rfl (?_))
      refine WL.toStr Try.underlying23 Try.underlying5 Try.underlying9 hO1.rsl rfl rfl ?_
      refine WL.move rfl rfl (?_)
      refine WL.toStr Try.underlying23 Try.underlying5 Try.underlying9 hO2.rsl rfl rfl ?_
      refine WL.seqlT rfl rfl rfl (by first | rfl | omega | decide) ?_
      refine WL.move rfl rfl (WL.want rfl rfl rfl (WL.move rfl rfl (WL.want rfl rfl rfl (WL.move rfl rfl (WL.want rfl rfl rfl (?_))))))
      refine WL.eqlT rfl rfl rfl (by first | rfl | omega | decide) ?_
      refine WL.pickT rfl rfl rfl (WL.assign rfl rfl (WL.nil (WX.then_normal (WC.ret (?_)))))
      refine WX.ret1 (.inl rfl) Try.results3 rfl ?_
      exact ⟨_, rfl, rfl, hw⟩
  ·
    refine WL.move rfl rfl (WL.pass rfl rfl rfl rfl (WL.pass rfl rfl rfl rfl (WL.pass rfl rfl rfl rfl (WL.pickF rfl rfl rfl (WL.nil (WX.then_normal (WC.cond_false rfl (?_))))))))
    refine WC.skip (WX.then_normal (WC.seq (WC.region (WL.move rfl rfl (WL.move rfl rfl (?_))))))
    refine WL.call eg_12 rfl rfl (rSolve_calls h hr hl1) ?_
    rintro v w2 ⟨⟨a1, c1, o1, e1, rfl, hS1, hO1⟩, k2⟩
    have zk2 := k2.size
    have zs_k2 := k2.size
    replace h := h.pure k2
    replace hr := hr.pure k2
    replace hw := hw.pure k2
    replace hO1 := hO1.lt
    refine WL.move rfl rfl (WL.extract rfl rfl rfl (WL.extract rfl rfl rfl (WL.assign rfl rfl (WL.assign rfl rfl (WL.nil (WX.then_normal (WC.seq (?_))))))))
    refine WC.region (?_)
    refine WL.call eg_13 rfl rfl (fresh_calls _) ?_
    rintro v w3 ⟨⟨gf, rfl, hF, hgf⟩, k3⟩
    have hgw : w.heap.size ≤ gf := by have := hw.size; omega
    have hgo1 : w2.heap.size ≤ gf := hgf
    have zs_k3 := k3.size
    replace h := h.pure k3
    replace hr := hr.pure k3
    replace hw := hw.pure k3
    replace hO1 := hO1.pure k3
    refine WL.move rfl rfl (WL.move rfl rfl (?_))
    refine WL.call eg_14 rfl rfl (Solve_calls hF (h.mono (fun b hb => by omega)) (hr.mono (S' := fun b => b ≠ gf) (fun b hb => by omega)) hl1 hl2) ?_
    rintro v w5 ⟨⟨a2, c2, o2, e2, rfl, hS2, hO2⟩, hF5, k5⟩
    obtain ⟨rfl, rfl⟩ := hS1.uniq hS2
    replace hw := hw.chg k5 (fun x h1 h2 => by have h3 : x = gf := h2; omega)
    replace hO1 := hO1.chg k5 (fun b _ h1 h2 => by have h3 : b = gf := h2; have := h1.2; omega)
    refine WL.move rfl rfl (WL.extract rfl rfl rfl (WL.extract rfl rfl rfl (WL.assign rfl rfl (WL.assign rfl rfl (WL.nil (WX.then_normal (WC.seq (?_))))))))
    refine WC.region (WL.move rfl rfl (?_))
    refine WL.toStr Try.underlying23 Try.underlying5 Try.underlying9 hO1.rsl rfl rfl ?_
    refine WL.move rfl rfl (?_)
    refine WL.toStr Try.underlying23 Try.underlying5 Try.underlying9 hO2.rsl rfl rfl ?_
    refine WL.seqlT rfl rfl rfl (by first | rfl | omega | decide) ?_
    refine WL.move rfl rfl (WL.want rfl rfl rfl (WL.move rfl rfl (WL.want rfl rfl rfl (WL.move rfl rfl (WL.want rfl rfl rfl (?_))))))
    refine WL.eqlT rfl rfl rfl (by first | rfl | omega | decide) ?_
    refine WL.pickT rfl rfl rfl (WL.assign rfl rfl (WL.nil (WX.then_normal (WC.ret (?_)))))
    refine WX.ret1 (.inl rfl) Try.results3 rfl ?_
    exact ⟨_, rfl, rfl, hw⟩
end Go.Proofs.Ytjdbjdgobhjbkaa
