import Derived.Test.YtgmkoieemmglpaaEa
import Derived.Test.YtgmkoieemmglpaaHj
namespace Go.Proofs.Ytgmkoieemmglpaa
open Go.RowKit Go.HL

abbrev rsv (r : RwI) : Value := .slice r.ao r.xs.length r.cap
def eop2 : Enc (Int × Int) := ⟨2, fun x => [vi x.1, vi x.2], fun _ => rfl, by simp [Value.oneCell'], by decide⟩
abbrev MXx (t : Int) (i : Nat) (x : XS) : Prop := MX t i x.l.abs x.O.xs (vsI x.sn) x.H.xs x.B.xs x.fl
abbrev PXx (t : Int) (i : Nat) (x : XS) (td : List PtV) : Prop := PX t i x.l.abs x.O.xs (vsI x.sn) x.H.xs x.B.xs x.fl td
theorem vsI_len (sn : List RwI) : (vsI sn).length = sn.length := by simp [vsI]
theorem vsI_app (sn : List RwI) (r : RwI) : vsI (sn ++ [r]) = vsI sn ++ [r.xs] := by simp [vsI]
theorem vsI_cut (sn : List RwI) (k : Nat) : vsI (sn.take k ++ sn.drop (k + 1)) = (vsI sn).take k ++ (vsI sn).drop (k + 1) := by simp [vsI, List.map_take, List.map_drop]
theorem vsI_at {sn : List RwI} {k : Nat} {r : RwI} (h : sn[k]? = some r) : (vsI sn)[k]? = some r.xs := by simp [vsI, h]
structure TD where
  ao : Option Addr
  c : Nat
  ps : List PtV
set_option maxHeartbeats 16000000 in
theorem DeadExact_calls {w : World} (x0 x1 : Int) {a2 : Option Addr} {c2 : Nat} {l2 : List (Int × Int)} (hA : RSl (· < w.heap.size) w eop2 a2 c2 l2) (hl2 : l2.length ≤ 9223372036854775807) :
    Calls Try.prog 5 [vi x0, vi x1, .slice a2 l2.length c2].toArray w (Ret fun v w' => v = .bool true ∧ Chg Nob w w') := by
  have hw := Chg.refl Nob w
  obtain ⟨bs, hbs⟩ : ∃ bs, bs = (B64 x0 % 100).toNat := ⟨_, rfl⟩
  have hbs9 : bs ≤ 99 := by rw [hbs, UInt64.toNat_mod]; have := Nat.mod_lt (B64 x0).toNat (show 0 < (100 : UInt64).toNat by decide); have e : (100 : UInt64).toNat = 100 := rfl; omega
  obtain ⟨od, hod⟩ : ∃ od, od = (B64 x1 % 5).toNat := ⟨_, rfl⟩
  have hod4 : od ≤ 4 := by rw [hod, UInt64.toNat_mod]; have := Nat.mod_lt (B64 x1).toNat (show 0 < (5 : UInt64).toNat by decide); have e : (5 : UInt64).toNat = 5 := rfl; omega
  refine Calls.of_WC Try.func5 rfl Try.ntmps5 (by simp) ?_
  refine WC.seq (WC.region (WL.assign rfl rfl (WL.nil (WX.then_normal (WC.seq (WC.seq (WC.region (?_))))))))
  refine WL.call eg_8 rfl rfl (known_calls _) ?_
  rintro v w1 ⟨rfl, k1⟩
  have zs_k1 := k1.size
  replace hA := hA.pure k1
  replace hw := hw.pure k1
  refine WL.not rfl rfl (WL.nil (WX.then_normal (WC.cond_false rfl (WC.skip (WX.then_normal (WC.seq (WC.region (?_))))))))
  refine WL.move rfl rfl (WL.c_i64_u64 Try.underlying3 Try.underlying54 rfl rfl (WL.num rfl rfl (n_rem64 _ _ _ 100 (by decide)) rfl (?_)))
  refine WL.c_u64_i64s (n := bs) Try.underlying54 Try.underlying3 rfl ⟨hbs.symm, by omega⟩ rfl ?_
  refine WL.assign rfl rfl (WL.nil (WX.then_normal (WC.seq (WC.region (WL.move rfl rfl (WL.add64 rfl rfl (by first | omega | (constructor <;> omega)) rfl (WL.assign rfl rfl (?_))))))))
  refine WL.nil (WX.then_normal (WC.seq (WC.region (WL.move rfl rfl (WL.bld rfl (bld_33_0 _) rfl (?_))))))
  refine WL.alloc Try.zeroValue33 rfl ?_
  intro g8 w8 hge8 hlt8 hb8 k8
  have zs_k8 := k8.size
  replace hA := hA.pure k8
  replace hw := hw.pure k8
  refine WL.stores Try.sizeOf33 hb8 rfl rfl (by first | (simp; done) | (simp; omega) | rfl) (by first | exact Enc.one _ _ | (intro u hu; obtain ⟨x, _, rfl⟩ := List.mem_map.1 hu; rfl) | (simp [Value.oneCell']; done) | (simp [Value.oneCell', Value.cells]; done)) (by first | (simp; done) | (simp; omega) | (simp [Value.cells]; done) | (simp [Value.cells]; omega) | exact Nat.le_of_ble_eq_true rfl) rfl ?_
  intro w_1 hs_1 hn_1 k_1
  have zs_k_1 := k_1.size
  replace hA := hA.chg k_1 (by first | (intro x h1 h2; exact h2) | (intro x h1 h2; have h3 : _ = _ := h2; exfalso; omega) | (intro b h1 h2 h3; have h4 : _ = _ := h3; (try dsimp only at h2); exfalso; omega) | (intro h1; have h2 : _ = _ := h1; exfalso; omega) | (intros; exfalso; (try dsimp only at *); omega) | (intro b h1 h2 h3; exfalso; have h4 := h3.2; (try dsimp only at *); omega) | (intro h1; exfalso; have h4 := h1.2; (try dsimp only at *); omega))
  replace hw := hw.chg k_1 (by first | (intro x h1 h2; exact h2) | (intro x h1 h2; have h3 : _ = _ := h2; exfalso; omega) | (intro b h1 h2 h3; have h4 : _ = _ := h3; (try dsimp only at h2); exfalso; omega) | (intro h1; have h2 : _ = _ := h1; exfalso; omega) | (intros; exfalso; (try dsimp only at *); omega) | (intro b h1 h2 h3; exfalso; have h4 := h3.2; (try dsimp only at *); omega) | (intro h1; exfalso; have h4 := h1.2; (try dsimp only at *); omega))
  replace hb8 := hn_1
  refine WL.nil (WX.then_normal (WC.seq (WC.region (WL.assign rfl rfl (WL.nil (WX.then_normal (WC.seq (?_))))))))
  refine WC.region (WL.assign rfl rfl (WL.nil (WX.then_normal (WC.seq (WC.region (WL.assign rfl rfl (WL.nil (?_))))))))
  refine WX.then_normal (WC.seq (WC.region (WL.assign rfl rfl (WL.nil (WX.then_normal (WC.seq (WC.region (?_))))))))
  refine WL.assign rfl rfl (WL.nil (WX.then_normal (WC.seq (WC.seq (WC.region (WL.assign rfl rfl (WL.nil (?_))))))))
  refine WX.then_normal (?_)
  have hb8' : Blk _ g8 33 (lcells ⟨(bs : Int), none, 0, [], none, 0, []⟩) := hb8
  have hE0 : E0 w g8 ⟨(bs : Int), none, 0, [], none, 0, []⟩ ⟨none, 0, []⟩ ⟨none, 0, []⟩ ⟨none, 0, []⟩ none 0 [] _ := ⟨hb8', by have := hw.size; omega, Row.nil _ _ _ _, Row.nil _ _ _ _, Row.nil _ _ _ _, Row.nil _ _ _ _, ApG.none _, ApG.none _, ApG.none _, hw⟩
  refine WC.cutG (σ := Nat × XS) (fun q => [(2, .slice a2 l2.length c2), (7, vi ((bs : Int) + 1)), (8, gptr g8), (9, rsv q.2.H), (10, .slice none 0 0), (11, rsv q.2.O), (12, rsv q.2.B), (13, .slice q.2.fao q.2.fl.length q.2.fc)])
    (fun q w' => MX ((bs : Int) + 1) 0 ⟨(bs : Int), [], []⟩ q.2.O.xs [] q.2.H.xs q.2.B.xs q.2.fl ∧ EX w w'.heap.size g8 ⟨⟨(bs : Int), none, 0, [], none, 0, []⟩, q.2.H, q.2.O, q.2.B, none, 0, [], q.2.fao, q.2.fc, q.2.fl⟩ w' ∧ RSl (· < w.heap.size) w' eop2 a2 c2 l2) ?_ ?_
  rotate_left
  ·
    refine WC.block ?_
    refine WC.loop (σ := Nat × XS) (fun q => [(0, vi (bs : Int)), (1, vi x1), (2, .slice a2 l2.length c2), (7, vi ((bs : Int) + 1)), (8, gptr g8), (9, rsv q.2.H), (10, .slice none 0 0), (11, rsv q.2.O), (12, rsv q.2.B), (13, .slice q.2.fao q.2.fl.length q.2.fc), (14, vi (q.1 : Int))])
      (fun q w' => (q.1 ≤ 4 ∧ (q.1 = 0 ∨ q.1 ≤ od)) ∧ (q.2.B.xs.length = q.1 ∧ (∀ b ∈ q.2.B.xs, b ≤ (bs : Int)) ∧ q.2.H.xs = (List.range q.1).map Int.ofNat ∧ q.2.O.xs = (List.range q.1).map Int.ofNat ∧ q.2.fl = List.replicate q.1 false) ∧ E0 w g8 ⟨(bs : Int), none, 0, [], none, 0, []⟩ q.2.B q.2.H q.2.O q.2.fao q.2.fc q.2.fl w' ∧ RSl (· < w.heap.size) w' eop2 a2 c2 l2) (fun q => 4 - q.1) (0, ⟨⟨(bs : Int), none, 0, [], none, 0, []⟩, ⟨none, 0, []⟩, ⟨none, 0, []⟩, ⟨none, 0, []⟩, none, 0, [], none, 0, []⟩) ⟨rfl, rfl, rfl, rfl, rfl, rfl, rfl, rfl, rfl, rfl, rfl, trivial⟩ ⟨⟨Nat.zero_le _, .inl rfl⟩, ⟨rfl, (fun b hb => by cases hb), rfl, rfl, rfl⟩, hE0, hA⟩ ?_
    clear hE0 hA hw hb8 hb8'
    rintro ⟨i, x⟩ w1 ⟨⟨hi4, hio⟩, ⟨hBl, hBb, hHx, hOx, hfl⟩, hE, hA⟩
    simp only at hi4 hio hBl hBb hHx hOx hfl hE
    dsimp only
    have hHl : x.H.xs.length = i := by rw [hHx]; simp
    have hOl : x.O.xs.length = i := by rw [hOx]; simp
    have hFl : x.fl.length = i := by rw [hfl]; simp
    refine WC.seq (WC.seq (WC.region (WL.move rfl rfl (WL.move rfl rfl (WL.c_i64_u64 Try.underlying3 Try.underlying54 rfl rfl (WL.num rfl rfl (n_rem64 _ _ _ 5 (by decide)) rfl (?_)))))))
    refine WL.c_u64_i64s (n := od) Try.underlying54 Try.underlying3 rfl ⟨hod.symm, by omega⟩ rfl ?_
    refine WL.lss? rfl rfl rfl (fun h42 => ?_) (fun h42 => ?_)
    ·
      refine WL.move rfl rfl (WL.want rfl rfl rfl (WL.move rfl rfl (WL.want rfl rfl rfl (?_))))
      refine WL.gtr? rfl rfl rfl (fun h45 => ?_) (fun h45 => ?_)
      ·
        refine WL.pickT rfl rfl rfl (WL.nil (WX.then_normal (WC.cond_true rfl (WC.skip (WX.then_normal (WC.seq (WC.block (?_))))))))
        refine WC.seq (WC.region (WL.move rfl rfl (WL.move rfl rfl (WL.move rfl rfl (?_)))))
        have hrm : (i : Int) % (bs : Int) < (bs : Int) := Int.emod_lt_of_pos _ (by omega)
        have hrm0 : 0 ≤ (i : Int) % (bs : Int) := Int.emod_nonneg _ (by omega)
        refine WL.rem64i rfl rfl (by constructor <;> omega) rfl ?_
        refine WL.add64 rfl rfl (by first | omega | (constructor <;> omega)) rfl (?_)
        refine WL.build (e := ei) [1 + (i : Int) % (bs : Int)] Try.underlying55 Try.sizeOf3 Try.zeroValue3 rfl rfl rfl (by first | (simp [Value.cells]; done) | (simp [Value.cells] <;> rfl) | (simp [Value.cells, eb, ei, es, ebool, e32, e64]; done)) (by decide) rfl ?_
        intro a_q1 w_q1 q1 l_q1 z_q1 k_q1
        have zs_k_q1 := k_q1.size
        replace hE := hE.pure k_q1
        replace hA := hA.pure k_q1
        refine WL.append (e := ei) info_3 rfl Try.underlying55 rfl rfl hE.rB (q1.rsl.src Try.underlying55) (by show (x.B.xs.length + 1) * 8 ≤ _ ∧ x.B.xs.length + 1 ≤ _; constructor <;> omega) (fun b hb => by have := hE.hw.size; omega) rfl ?_
        intro aB cB w9 hrB gB nB
        have hE1 := hE.grow hrB gB
        replace hA := hA.chg gB.chg (fun b _ h2 h3 => by have := h3.2; omega)
        refine WL.assign rfl rfl (WL.nil (WX.then_normal (WC.seq (WC.region (WL.move rfl rfl (?_))))))
        refine WL.build (e := ebool) [false] Try.underlying57 Try.sizeOf4 Try.zeroValue4 rfl rfl rfl (by first | (simp [Value.cells]; done) | (simp [Value.cells] <;> rfl) | (simp [Value.cells, eb, ei, es, ebool, e32, e64]; done)) (by decide) rfl ?_
        intro a_q2 w_q2 q2 l_q2 z_q2 k_q2
        have zs_k_q2 := k_q2.size
        replace hA := hA.pure k_q2
        replace hE1 := hE1.pure k_q2
        refine WL.append (e := ebool) info_4 rfl Try.underlying57 rfl rfl hE1.rF (q2.rsl.src Try.underlying57) (by show (x.fl.length + 1) * 1 ≤ _ ∧ x.fl.length + 1 ≤ _; constructor <;> omega) (fun b hb => by have := hE1.hw.size; omega) rfl ?_
        intro aF cF w10 hrF gF nF
        have hE2 := hE1.growF hrF gF
        replace hA := hA.chg gF.chg (fun b _ h2 h3 => by have := h3.2; omega)
        refine WL.assign rfl rfl (WL.nil (WX.then_normal (WC.seq (WC.region (WL.move rfl rfl (WL.move rfl rfl (?_)))))))
        refine WL.build (e := ei) [(i : Int)] Try.underlying55 Try.sizeOf3 Try.zeroValue3 rfl rfl rfl (by first | (simp [Value.cells]; done) | (simp [Value.cells] <;> rfl) | (simp [Value.cells, eb, ei, es, ebool, e32, e64]; done)) (by decide) rfl ?_
        intro a_q3 w_q3 q3 l_q3 z_q3 k_q3
        have zs_k_q3 := k_q3.size
        replace hA := hA.pure k_q3
        replace hE2 := hE2.pure k_q3
        refine WL.append (e := ei) info_3 rfl Try.underlying55 rfl rfl hE2.rH (q3.rsl.src Try.underlying55) (by show (x.H.xs.length + 1) * 8 ≤ _ ∧ x.H.xs.length + 1 ≤ _; constructor <;> omega) (fun b hb => by have := hE2.hw.size; omega) rfl ?_
        intro aH cH w11 hrH gH nH
        have hE3 := (hE2.swap.grow hrH gH).swap
        replace hA := hA.chg gH.chg (fun b _ h2 h3 => by have := h3.2; omega)
        refine WL.assign rfl rfl (WL.nil (WX.then_normal (WC.region (WL.move rfl rfl (WL.move rfl rfl (?_))))))
        refine WL.build (e := ei) [(i : Int)] Try.underlying55 Try.sizeOf3 Try.zeroValue3 rfl rfl rfl (by first | (simp [Value.cells]; done) | (simp [Value.cells] <;> rfl) | (simp [Value.cells, eb, ei, es, ebool, e32, e64]; done)) (by decide) rfl ?_
        intro a_q4 w_q4 q4 l_q4 z_q4 k_q4
        have zs_k_q4 := k_q4.size
        replace hA := hA.pure k_q4
        replace hE3 := hE3.pure k_q4
        refine WL.append (e := ei) info_3 rfl Try.underlying55 rfl rfl hE3.rO (q4.rsl.src Try.underlying55) (by show (x.O.xs.length + 1) * 8 ≤ _ ∧ x.O.xs.length + 1 ≤ _; constructor <;> omega) (fun b hb => by have := hE3.hw.size; omega) rfl ?_
        intro aO cO w12 hrO gO nO
        have hE4 := (hE3.rot.grow hrO gO).rot
        replace hA := hA.chg gO.chg (fun b _ h2 h3 => by have := h3.2; omega)
        refine WL.assign rfl rfl (WL.nil (WX.block_normal (WX.then_normal (WC.region (WL.move rfl rfl (WL.add64 rfl rfl (by first | omega | (constructor <;> omega)) rfl (WL.assign rfl rfl (?_))))))))
        refine WL.nil (?_)
        first
          | exact WX.loop_next (i + 1, ⟨x.l, ⟨aH, cH, x.H.xs ++ [(i : Int)]⟩, ⟨aO, cO, x.O.xs ++ [(i : Int)]⟩, ⟨aB, cB, x.B.xs ++ [1 + (i : Int) % (bs : Int)]⟩, x.sao, x.sc, x.sn, aF, cF, x.fl ++ [false]⟩) ⟨rfl, rfl, rfl, rfl, rfl, rfl, rfl, rfl, rfl, rfl, rfl, trivial⟩ ⟨⟨by show i + 1 ≤ 4; omega, .inr (by show i + 1 ≤ od; omega)⟩, ⟨by show (x.B.xs ++ [_]).length = i + 1; simp [hBl], fun b hb => (by
              rcases List.mem_append.1 hb with h1 | h1
              ·
                exact hBb b h1
              ·
                rw [List.mem_singleton.1 h1]; omega), by show x.H.xs ++ [(i : Int)] = _; rw [List.range_succ, List.map_append, hHx]; rfl, by show x.O.xs ++ [(i : Int)] = _; rw [List.range_succ, List.map_append, hOx]; rfl, by show x.fl ++ [false] = _; rw [hfl, List.replicate_succ']⟩, hE4, hA⟩ (by show 4 - (i + 1) < 4 - i; omega)
          | exact WX.loop_next (j + 1, _, fl2.set p.a.toNat true) ⟨rfl, rfl, rfl, rfl, rfl, rfl, rfl, by simp [List.lookup, ev, List.length_set], rfl, rfl, rfl, trivial⟩ ⟨⟨by show j + 1 ≤ _; omega, hMk.step hp hp0⟩, hX9, hT, hA⟩ (by show td.ps.length - (j + 1) < td.ps.length - j; omega)
          | exact WX.loop_next (k + 1, true) ⟨rfl, rfl, rfl, rfl, rfl, rfl, rfl, rfl, rfl, rfl, rfl, rfl, trivial⟩ ⟨⟨by show k + 1 ≤ _; omega, (by
              have h1 := hbq.1 hb254
              refine ⟨fun _ => ?_, fun _ => rfl⟩
              rcases h1 with h1 | h1 | ⟨V, hV, h1⟩
              ·
                exact .inl h1
              ·
                exact .inr (.inl h1)
              ·
                exact .inr (.inr ⟨V, (List.take_subset_take_left _ (Nat.le_succ k)) hV, h1⟩))⟩, hX, hA⟩ (by show y.sn.length - (k + 1) < y.sn.length - k; omega)
          | exact WX.loop_next (k + 1, decide ((m : Int) ∈ r.xs)) ⟨rfl, rfl, rfl, rfl, rfl, rfl, rfl, rfl, rfl, rfl, rfl, rfl, trivial⟩ ⟨⟨by show k + 1 ≤ _; omega, (by
              have h1 : ¬ ((m : Int) ∈ y.H.xs ∨ (m : Int) ∈ y.O.xs ∨ ∃ V ∈ (vsI y.sn).take k, (m : Int) ∈ V) := fun h3 => by have := hbq.2 h3; rw [hb254] at this; cases this
              show decide ((m : Int) ∈ r.xs) = true ↔ (m : Int) ∈ y.H.xs ∨ (m : Int) ∈ y.O.xs ∨ ∃ V ∈ (vsI y.sn).take (k + 1), (m : Int) ∈ V
              rw [List.take_add_one, vsI_at hr, decide_eq_true_iff]
              constructor
              ·
                intro h2
                exact .inr (.inr ⟨r.xs, by simp, h2⟩)
              ·
                rintro (h2 | h2 | ⟨V, hV, h2⟩)
                ·
                  exact absurd (.inl h2) h1
                ·
                  exact absurd (.inr (.inl h2)) h1
                ·
                  rcases List.mem_append.1 hV with h3 | h3
                  ·
                    exact absurd (.inr (.inr ⟨V, h3, h2⟩)) h1
                  ·
                    rw [show V = r.xs by simpa using h3] at h2
                    exact h2)⟩, hX, hA⟩ (by show y.sn.length - (k + 1) < y.sn.length - k; omega)
          | exact WX.loop_next (m + 1) ⟨rfl, rfl, rfl, rfl, rfl, rfl, rfl, rfl, rfl, rfl, trivial⟩ ⟨by omega, hX, hA⟩ (by omega)
          | exact WX.loop_next (i + 1, t + 1, n2, y) ⟨rfl, rfl, rfl, rfl, rfl, rfl, rfl, rfl, rfl, trivial⟩ ⟨⟨by show i + 1 ≤ _; omega, by show i + 1 ≤ _; omega⟩, hM2, hX, hA⟩ (by show 80 - (i + 1) < 80 - i; omega)
          | exact WX.loop_next (i + 1, t + 1, n, x) ⟨rfl, rfl, rfl, rfl, rfl, rfl, rfl, rfl, rfl, trivial⟩ ⟨⟨by show i + 1 ≤ _; omega, by show i + 1 ≤ _; omega⟩, hM.skip, hX, hA⟩ (by show 80 - (i + 1) < 80 - i; omega)
      ·
        refine WL.pickT rfl rfl rfl (WL.nil (WX.then_normal (WC.cond_false rfl (WC.exit (WX.then_exit (WX.then_exit (WX.block_here (?_))))))))
        first
          | exact WX.cutN (i, x) ⟨rfl, rfl, rfl, rfl, rfl, rfl, rfl, rfl, trivial⟩ ⟨(by
              have h1 := MX.start (bs := (bs : Int)) (n := i) (bi := x.B.xs) hi4 ⟨by omega, by omega⟩ hBl hBb
              rw [← hOx, ← hfl] at h1
              rw [hHx, ← hOx]
              exact h1), hE.ex, hA⟩
          | exact WX.cutN (_, ⟨x.l, ⟨aH, cH, x.H.xs ++ [(x.B.xs.length : Int)]⟩, x.O, ⟨aB, cB, x.B.xs ++ [t + 1]⟩, x.sao, x.sc, x.sn, aF, cF, x.fl ++ [false]⟩, ⟨none, 0, []⟩) ⟨rfl, rfl, rfl, rfl, rfl, rfl, rfl, rfl, rfl, rfl, rfl, trivial⟩ ⟨hM.born, by show 0 ≤ 1000; decide, hX3, Row.nil _ _ _ _, hA⟩
          | exact WX.cutN (_, ⟨l', ⟨aW, cW, x.H.xs.take kk ++ x.H.xs.drop (kk + 1)⟩, x.O, x.B, x.sao, x.sc, x.sn, x.fao, x.fc, x.fl⟩, ⟨aT, cT, [⟨y, 0, birth x.B.xs y, ByteArray.empty⟩]⟩) ⟨rfl, rfl, rfl, rfl, rfl, rfl, rfl, rfl, rfl, rfl, rfl, trivial⟩ ⟨(by rw [if_pos hc135] at hP; exact hP), by show 1 ≤ 1000; decide, hX9, hT.mono (fun _ _ => trivial), hA⟩
          | exact WX.cutN (_, ⟨l', ⟨aW, cW, x.H.xs.take kk ++ x.H.xs.drop (kk + 1)⟩, x.O, x.B, x.sao, x.sc, x.sn, x.fao, x.fc, x.fl⟩, ⟨none, 0, []⟩) ⟨rfl, rfl, rfl, rfl, rfl, rfl, rfl, rfl, rfl, rfl, rfl, trivial⟩ ⟨(by rw [if_neg (by simp [hc135])] at hP; exact hP), by show 0 ≤ 1000; decide, hX9, Row.nil _ _ _ _, hA⟩
          | exact WX.cutN (_, ⟨l', x.H, x.O, x.B, aS, cS, x.sn ++ [⟨aQ, cQ, x.H.xs⟩], x.fao, x.fc, x.fl⟩, ⟨none, 0, []⟩) ⟨rfl, rfl, rfl, rfl, rfl, rfl, rfl, rfl, rfl, rfl, rfl, trivial⟩ ⟨(by show PX _ _ _ _ (vsI (x.sn ++ [⟨aQ, cQ, x.H.xs⟩])) _ _ _ _; rw [vsI_app]; exact hP), by show 0 ≤ 1000; decide, hX9, Row.nil _ _ _ _, hA⟩
          | exact WX.cutN (_, ⟨l', x.H, x.O, x.B, a14, c14, x.sn.take kk ++ x.sn.drop (kk + 1), x.fao, x.fc, x.fl⟩, ⟨fao, fc, fr⟩) ⟨rfl, rfl, rfl, rfl, rfl, rfl, rfl, rfl, rfl, rfl, rfl, trivial⟩ ⟨(by show PX _ _ _ _ (vsI (x.sn.take kk ++ x.sn.drop (kk + 1))) _ _ _ _; rw [vsI_cut]; exact hP), by show fr.length ≤ 1000; omega,
              hX8.setS hR (Chg.refl Nob _) (fun b _ h => h.elim) (.inr (hR.at_.mono (fun b hb => by omega))) (fun r hr => .inl (by
                rcases List.mem_append.1 hr with h1 | h1
                ·
                  exact List.mem_of_mem_take h1
                ·
                  exact List.mem_of_mem_drop h1)), hT.mono (fun _ _ => trivial), hA⟩
          | exact WX.cutN (_, x, ⟨none, 0, []⟩) ⟨rfl, rfl, rfl, rfl, rfl, rfl, rfl, rfl, rfl, rfl, rfl, trivial⟩ ⟨hM.idle, by show 0 ≤ 1000; decide, hX, Row.nil _ _ _ _, hA⟩
    ·
      refine WL.move rfl rfl (WL.pass rfl rfl rfl rfl (WL.pass rfl rfl rfl rfl (WL.pickF rfl rfl rfl (WL.nil (WX.then_normal (WC.cond_false rfl (WC.exit (?_))))))))
      refine WX.then_exit (WX.then_exit (WX.block_here (?_)))
      first
        | exact WX.cutN (i, x) ⟨rfl, rfl, rfl, rfl, rfl, rfl, rfl, rfl, trivial⟩ ⟨(by
            have h1 := MX.start (bs := (bs : Int)) (n := i) (bi := x.B.xs) hi4 ⟨by omega, by omega⟩ hBl hBb
            rw [← hOx, ← hfl] at h1
            rw [hHx, ← hOx]
            exact h1), hE.ex, hA⟩
        | exact WX.cutN (_, ⟨x.l, ⟨aH, cH, x.H.xs ++ [(x.B.xs.length : Int)]⟩, x.O, ⟨aB, cB, x.B.xs ++ [t + 1]⟩, x.sao, x.sc, x.sn, aF, cF, x.fl ++ [false]⟩, ⟨none, 0, []⟩) ⟨rfl, rfl, rfl, rfl, rfl, rfl, rfl, rfl, rfl, rfl, rfl, trivial⟩ ⟨hM.born, by show 0 ≤ 1000; decide, hX3, Row.nil _ _ _ _, hA⟩
        | exact WX.cutN (_, ⟨l', ⟨aW, cW, x.H.xs.take kk ++ x.H.xs.drop (kk + 1)⟩, x.O, x.B, x.sao, x.sc, x.sn, x.fao, x.fc, x.fl⟩, ⟨aT, cT, [⟨y, 0, birth x.B.xs y, ByteArray.empty⟩]⟩) ⟨rfl, rfl, rfl, rfl, rfl, rfl, rfl, rfl, rfl, rfl, rfl, trivial⟩ ⟨(by rw [if_pos hc135] at hP; exact hP), by show 1 ≤ 1000; decide, hX9, hT.mono (fun _ _ => trivial), hA⟩
        | exact WX.cutN (_, ⟨l', ⟨aW, cW, x.H.xs.take kk ++ x.H.xs.drop (kk + 1)⟩, x.O, x.B, x.sao, x.sc, x.sn, x.fao, x.fc, x.fl⟩, ⟨none, 0, []⟩) ⟨rfl, rfl, rfl, rfl, rfl, rfl, rfl, rfl, rfl, rfl, rfl, trivial⟩ ⟨(by rw [if_neg (by simp [hc135])] at hP; exact hP), by show 0 ≤ 1000; decide, hX9, Row.nil _ _ _ _, hA⟩
        | exact WX.cutN (_, ⟨l', x.H, x.O, x.B, aS, cS, x.sn ++ [⟨aQ, cQ, x.H.xs⟩], x.fao, x.fc, x.fl⟩, ⟨none, 0, []⟩) ⟨rfl, rfl, rfl, rfl, rfl, rfl, rfl, rfl, rfl, rfl, rfl, trivial⟩ ⟨(by show PX _ _ _ _ (vsI (x.sn ++ [⟨aQ, cQ, x.H.xs⟩])) _ _ _ _; rw [vsI_app]; exact hP), by show 0 ≤ 1000; decide, hX9, Row.nil _ _ _ _, hA⟩
        | exact WX.cutN (_, ⟨l', x.H, x.O, x.B, a14, c14, x.sn.take kk ++ x.sn.drop (kk + 1), x.fao, x.fc, x.fl⟩, ⟨fao, fc, fr⟩) ⟨rfl, rfl, rfl, rfl, rfl, rfl, rfl, rfl, rfl, rfl, rfl, trivial⟩ ⟨(by show PX _ _ _ _ (vsI (x.sn.take kk ++ x.sn.drop (kk + 1))) _ _ _ _; rw [vsI_cut]; exact hP), by show fr.length ≤ 1000; omega,
            hX8.setS hR (Chg.refl Nob _) (fun b _ h => h.elim) (.inr (hR.at_.mono (fun b hb => by omega))) (fun r hr => .inl (by
              rcases List.mem_append.1 hr with h1 | h1
              ·
                exact List.mem_of_mem_take h1
              ·
                exact List.mem_of_mem_drop h1)), hT.mono (fun _ _ => trivial), hA⟩
        | exact WX.cutN (_, x, ⟨none, 0, []⟩) ⟨rfl, rfl, rfl, rfl, rfl, rfl, rfl, rfl, rfl, rfl, rfl, trivial⟩ ⟨hM.idle, by show 0 ≤ 1000; decide, hX, Row.nil _ _ _ _, hA⟩
  ·
    clear hE0 hA hw hb8 hb8'
    rintro ⟨i, x⟩ w1 ⟨hM0, hX0, hA⟩
    simp only at hM0 hX0
    dsimp only
    refine WX.then_normal (WC.seq (WC.seq (WC.region (WL.assign rfl rfl (WL.nil (WX.then_normal (WC.block (?_))))))))
    refine WC.loop (σ := Nat × Int × Nat × XS) (fun q => [(2, .slice a2 l2.length c2), (7, vi q.2.1), (8, gptr g8), (9, rsv q.2.2.2.H), (10, .slice q.2.2.2.sao q.2.2.2.sn.length q.2.2.2.sc), (11, rsv q.2.2.2.O), (12, rsv q.2.2.2.B), (13, .slice q.2.2.2.fao q.2.2.2.fl.length q.2.2.2.fc), (15, vi (q.1 : Int))])
      (fun q w' => (q.1 ≤ l2.length ∧ q.1 ≤ 80) ∧ MXx q.2.1 q.1 q.2.2.2 ∧ EX w q.2.2.1 g8 q.2.2.2 w' ∧ RSl (· < w.heap.size) w' eop2 a2 c2 l2) (fun q => 80 - q.1) (0, (bs : Int) + 1, _, ⟨⟨(bs : Int), none, 0, [], none, 0, []⟩, x.H, x.O, x.B, none, 0, [], x.fao, x.fc, x.fl⟩) ⟨rfl, rfl, rfl, rfl, rfl, rfl, rfl, rfl, rfl, trivial⟩ ⟨⟨Nat.zero_le _, Nat.zero_le _⟩, hM0, hX0, hA⟩ ?_
    clear hM0 hX0 hA
    rintro ⟨i, t, n, x⟩ w1 ⟨⟨hil, hi8⟩, hM, hX, hA⟩
    simp only at hil hi8 hM hX
    dsimp only
    have hz := hM.z
    have hVl := vsI_len x.sn
    have hwn : w.heap.size ≤ n := by have h3 := hX.g8n.1; have h4 := hX.g8n.2; omega
    refine WC.seq (WC.seq (WC.region (WL.move rfl rfl (WL.move rfl rfl (WL.len Try.underlying53 rfl rfl (?_))))))
    refine WL.lss? rfl rfl rfl (fun h70 => ?_) (fun h70 => ?_)
    ·
      refine WL.move rfl rfl (WL.want rfl rfl rfl (WL.move rfl rfl (WL.want rfl rfl rfl (?_))))
      refine WL.lss? rfl rfl rfl (fun h73 => ?_) (fun h73 => ?_)
      ·
        refine WL.pickT rfl rfl rfl (WL.nil (WX.then_normal (WC.cond_true rfl (WC.skip (WX.then_normal (WC.seq (WC.block (?_))))))))
        refine WC.seq (WC.region (WL.move rfl rfl (WL.add64 rfl rfl (by first | omega | (constructor <;> omega)) rfl (WL.assign rfl rfl (WL.nil (WX.then_normal (WC.seq (?_))))))))
        refine WC.region (WL.assign rfl rfl (WL.nil (WX.then_normal (WC.seq (WC.region (WL.assign rfl rfl (WL.nil (?_))))))))
        refine WX.then_normal (WC.seq (WC.seq (WC.region (WL.move rfl rfl (WL.move rfl rfl (?_))))))
        obtain ⟨o, ho⟩ : ∃ o, l2[i]? = some o := ⟨_, List.getElem?_eq_getElem (by omega)⟩
        refine WL.indexT (e := eop2) Try.underlying53 Try.sizeOf59 hA rfl rfl ⟨ho, rfl⟩ rfl ?_
        intro bb oo hcc
        refine WL.fieldAddr (fld_59_0) rfl rfl (WL.load Try.isAgg3 rfl (hcc _ _ rfl) rfl (WL.nil (WX.then_normal (?_))))
        refine WC.cutG (σ := Nat × XS × TD) (fun s => [(2, .slice a2 l2.length c2), (7, vi (t + 1)), (8, gptr g8), (9, rsv s.2.1.H), (10, .slice s.2.1.sao s.2.1.sn.length s.2.1.sc), (11, rsv s.2.1.O), (12, rsv s.2.1.B), (13, .slice s.2.1.fao s.2.1.fl.length s.2.1.fc), (15, vi (i : Int)), (16, .slice s.2.2.ao s.2.2.ps.length s.2.2.c), (17, vi 0)])
          (fun s w' => PXx (t + 1) i s.2.1 s.2.2.ps ∧ s.2.2.ps.length ≤ 1000 ∧ EX w s.1 g8 s.2.1 w' ∧ Row (fun _ => True) w' 27 ept s.2.2.ao s.2.2.c s.2.2.ps ∧ RSl (· < w.heap.size) w' eop2 a2 c2 l2) ?_ ?_
        rotate_left
        ·
          refine WC.block ?_
          refine WC.seq (WC.region (?_))
          refine WL.eql? rfl rfl rfl (fun h85 => ?_) (fun h85 => ?_)
          ·
            refine WL.assign rfl rfl (WL.nil (WX.then_normal (WC.cond_true rfl (WC.seq (WC.region (?_))))))
            have hnl := hX.le
            refine WL.build (e := ei) [] Try.underlying55 Try.sizeOf3 Try.zeroValue3 rfl rfl rfl (by first | (simp [Value.cells]; done) | (simp [Value.cells] <;> rfl) | (simp [Value.cells, eb, ei, es, ebool, e32, e64]; done)) (by decide) rfl ?_
            intro a_q1 w_q1 q1 l_q1 z_q1 k_q1
            have zs_k_q1 := k_q1.size
            replace hX := hX.pure k_q1
            replace hA := hA.pure k_q1
            refine WL.move rfl rfl (?_)
            refine WL.append (e := ei) (xs := []) (S := fun b => n ≤ b) info_3 rfl Try.underlying55 rfl rfl (q1.mono (fun b hb => by omega)) (hX.head.rsl.src Try.underlying55) (by show (0 + x.H.xs.length) * 8 ≤ _ ∧ 0 + x.H.xs.length ≤ _; constructor <;> omega) (fun b hb => by have := hX.le; omega) rfl ?_
            intro aQ cQ w9 hQ gQ nQ
            have kQ := gQ.chg.mono (fun x _ hx => hx.2)
            have zs_kQ := kQ.size
            replace hX := hX.chg kQ (by first | (intro x h1 h2; exact h2) | (intro x h1 h2; have h3 : _ = _ := h2; exfalso; omega) | (intro b h1 h2 h3; have h4 : _ = _ := h3; (try dsimp only at h2); exfalso; omega) | (intro h1; have h2 : _ = _ := h1; exfalso; omega) | (intros; exfalso; (try dsimp only at *); omega) | (intro b h1 h2 h3; exfalso; have h4 := h3.2; (try dsimp only at *); omega) | (intro h1; exfalso; have h4 := h1.2; (try dsimp only at *); omega))
            replace hA := hA.chg kQ (by first | (intro x h1 h2; exact h2) | (intro x h1 h2; have h3 : _ = _ := h2; exfalso; omega) | (intro b h1 h2 h3; have h4 : _ = _ := h3; (try dsimp only at h2); exfalso; omega) | (intro h1; have h2 : _ = _ := h1; exfalso; omega) | (intros; exfalso; (try dsimp only at *); omega) | (intro b h1 h2 h3; exfalso; have h4 := h3.2; (try dsimp only at *); omega) | (intro h1; exfalso; have h4 := h1.2; (try dsimp only at *); omega))
            refine WL.move rfl rfl (WL.len Try.underlying55 rfl rfl (?_))
            refine WL.build (e := ei) [(x.B.xs.length : Int)] Try.underlying55 Try.sizeOf3 Try.zeroValue3 rfl rfl rfl (by first | (simp [Value.cells]; done) | (simp [Value.cells] <;> rfl) | (simp [Value.cells, eb, ei, es, ebool, e32, e64]; done)) (by decide) rfl ?_
            intro a_q2 w_q2 q2 l_q2 z_q2 k_q2
            have zs_k_q2 := k_q2.size
            replace hX := hX.pure k_q2
            replace hA := hA.pure k_q2
            replace hQ := hQ.pure k_q2
            refine WL.append (e := ei) (xs := x.H.xs) (S := fun b => n ≤ b) info_3 rfl Try.underlying55 rfl rfl hQ (q2.rsl.src Try.underlying55) (by show (x.H.xs.length + 1) * 8 ≤ _ ∧ x.H.xs.length + 1 ≤ _; constructor <;> omega) (fun b hb => by have := hX.le; omega) rfl ?_
            intro aH cH w10 hrH gH nH
            have kH := gH.chg.mono (fun x _ hx => hx.2)
            have zs_kH := kH.size
            replace hX := hX.chg kH (by first | (intro x h1 h2; exact h2) | (intro x h1 h2; have h3 : _ = _ := h2; exfalso; omega) | (intro b h1 h2 h3; have h4 : _ = _ := h3; (try dsimp only at h2); exfalso; omega) | (intro h1; have h2 : _ = _ := h1; exfalso; omega) | (intros; exfalso; (try dsimp only at *); omega) | (intro b h1 h2 h3; exfalso; have h4 := h3.2; (try dsimp only at *); omega) | (intro h1; exfalso; have h4 := h1.2; (try dsimp only at *); omega))
            replace hA := hA.chg kH (by first | (intro x h1 h2; exact h2) | (intro x h1 h2; have h3 : _ = _ := h2; exfalso; omega) | (intro b h1 h2 h3; have h4 : _ = _ := h3; (try dsimp only at h2); exfalso; omega) | (intro h1; have h2 : _ = _ := h1; exfalso; omega) | (intros; exfalso; (try dsimp only at *); omega) | (intro b h1 h2 h3; exfalso; have h4 := h3.2; (try dsimp only at *); omega) | (intro h1; exfalso; have h4 := h1.2; (try dsimp only at *); omega))
            have hX1 := hX.setHead (H := ⟨aH, cH, x.H.xs ++ [(x.B.xs.length : Int)]⟩) hrH (fun b hb => hb)
            refine WL.assign rfl rfl (WL.nil (WX.then_normal (WC.seq (WC.region (WL.move rfl rfl (WL.move rfl rfl (?_)))))))
            refine WL.build (e := ei) [t + 1] Try.underlying55 Try.sizeOf3 Try.zeroValue3 rfl rfl rfl (by first | (simp [Value.cells]; done) | (simp [Value.cells] <;> rfl) | (simp [Value.cells, eb, ei, es, ebool, e32, e64]; done)) (by decide) rfl ?_
            intro a_q3 w_q3 q3 l_q3 z_q3 k_q3
            have zs_k_q3 := k_q3.size
            replace hA := hA.pure k_q3
            replace hX1 := hX1.pure k_q3
            refine WL.append (e := ei) info_3 rfl Try.underlying55 rfl rfl (hX1.births.mono (S' := fun b => w.heap.size ≤ b) (fun b hb => hb.1)) (q3.rsl.src Try.underlying55) (by show (x.B.xs.length + 1) * 8 ≤ _ ∧ x.B.xs.length + 1 ≤ _; constructor <;> omega) (fun b hb => by have := hX1.hw.size; omega) rfl ?_
            intro aB cB w9 hrB gB nB
            have hX2 := hX1.setB hrB gB
            replace hA := hA.chg gB.chg (fun b _ h2 h3 => by have := h3.2; omega)
            refine WL.assign rfl rfl (WL.nil (WX.then_normal (WC.region (WL.move rfl rfl (?_)))))
            refine WL.build (e := ebool) [false] Try.underlying57 Try.sizeOf4 Try.zeroValue4 rfl rfl rfl (by first | (simp [Value.cells]; done) | (simp [Value.cells] <;> rfl) | (simp [Value.cells, eb, ei, es, ebool, e32, e64]; done)) (by decide) rfl ?_
            intro a_q4 w_q4 q4 l_q4 z_q4 k_q4
            have zs_k_q4 := k_q4.size
            replace hA := hA.pure k_q4
            replace hX2 := hX2.pure k_q4
            refine WL.append (e := ebool) info_4 rfl Try.underlying57 rfl rfl (hX2.free.mono (S' := fun b => w.heap.size ≤ b) (fun b hb => hb.1)) (q4.rsl.src Try.underlying57) (by show (x.fl.length + 1) * 1 ≤ _ ∧ x.fl.length + 1 ≤ _; have := hM.fl; constructor <;> omega) (fun b hb => by have := hX2.hw.size; omega) rfl ?_
            intro aF cF w10 hrF gF nF
            have hX3 := hX2.setF hrF (gF.chg.mono (fun b _ hb => hb.1)) gF.fr
            replace hA := hA.chg gF.chg (fun b _ h2 h3 => by have := h3.2; omega)
            refine WL.assign rfl rfl (WL.nil (WX.block_normal (?_)))
            first
              | exact WX.cutN (i, x) ⟨rfl, rfl, rfl, rfl, rfl, rfl, rfl, rfl, trivial⟩ ⟨(by
                  have h1 := MX.start (bs := (bs : Int)) (n := i) (bi := x.B.xs) hi4 ⟨by omega, by omega⟩ hBl hBb
                  rw [← hOx, ← hfl] at h1
                  rw [hHx, ← hOx]
                  exact h1), hE.ex, hA⟩
              | exact WX.cutN (_, ⟨x.l, ⟨aH, cH, x.H.xs ++ [(x.B.xs.length : Int)]⟩, x.O, ⟨aB, cB, x.B.xs ++ [t + 1]⟩, x.sao, x.sc, x.sn, aF, cF, x.fl ++ [false]⟩, ⟨none, 0, []⟩) ⟨rfl, rfl, rfl, rfl, rfl, rfl, rfl, rfl, rfl, rfl, rfl, trivial⟩ ⟨hM.born, by show 0 ≤ 1000; decide, hX3, Row.nil _ _ _ _, hA⟩
              | exact WX.cutN (_, ⟨l', ⟨aW, cW, x.H.xs.take kk ++ x.H.xs.drop (kk + 1)⟩, x.O, x.B, x.sao, x.sc, x.sn, x.fao, x.fc, x.fl⟩, ⟨aT, cT, [⟨y, 0, birth x.B.xs y, ByteArray.empty⟩]⟩) ⟨rfl, rfl, rfl, rfl, rfl, rfl, rfl, rfl, rfl, rfl, rfl, trivial⟩ ⟨(by rw [if_pos hc135] at hP; exact hP), by show 1 ≤ 1000; decide, hX9, hT.mono (fun _ _ => trivial), hA⟩
              | exact WX.cutN (_, ⟨l', ⟨aW, cW, x.H.xs.take kk ++ x.H.xs.drop (kk + 1)⟩, x.O, x.B, x.sao, x.sc, x.sn, x.fao, x.fc, x.fl⟩, ⟨none, 0, []⟩) ⟨rfl, rfl, rfl, rfl, rfl, rfl, rfl, rfl, rfl, rfl, rfl, trivial⟩ ⟨(by rw [if_neg (by simp [hc135])] at hP; exact hP), by show 0 ≤ 1000; decide, hX9, Row.nil _ _ _ _, hA⟩
              | exact WX.cutN (_, ⟨l', x.H, x.O, x.B, aS, cS, x.sn ++ [⟨aQ, cQ, x.H.xs⟩], x.fao, x.fc, x.fl⟩, ⟨none, 0, []⟩) ⟨rfl, rfl, rfl, rfl, rfl, rfl, rfl, rfl, rfl, rfl, rfl, trivial⟩ ⟨(by show PX _ _ _ _ (vsI (x.sn ++ [⟨aQ, cQ, x.H.xs⟩])) _ _ _ _; rw [vsI_app]; exact hP), by show 0 ≤ 1000; decide, hX9, Row.nil _ _ _ _, hA⟩
              | exact WX.cutN (_, ⟨l', x.H, x.O, x.B, a14, c14, x.sn.take kk ++ x.sn.drop (kk + 1), x.fao, x.fc, x.fl⟩, ⟨fao, fc, fr⟩) ⟨rfl, rfl, rfl, rfl, rfl, rfl, rfl, rfl, rfl, rfl, rfl, trivial⟩ ⟨(by show PX _ _ _ _ (vsI (x.sn.take kk ++ x.sn.drop (kk + 1))) _ _ _ _; rw [vsI_cut]; exact hP), by show fr.length ≤ 1000; omega,
                  hX8.setS hR (Chg.refl Nob _) (fun b _ h => h.elim) (.inr (hR.at_.mono (fun b hb => by omega))) (fun r hr => .inl (by
                    rcases List.mem_append.1 hr with h1 | h1
                    ·
                      exact List.mem_of_mem_take h1
                    ·
                      exact List.mem_of_mem_drop h1)), hT.mono (fun _ _ => trivial), hA⟩
              | exact WX.cutN (_, x, ⟨none, 0, []⟩) ⟨rfl, rfl, rfl, rfl, rfl, rfl, rfl, rfl, rfl, rfl, rfl, trivial⟩ ⟨hM.idle, by show 0 ≤ 1000; decide, hX, Row.nil _ _ _ _, hA⟩
          ·
            refine WL.assign rfl rfl (WL.nil (WX.then_normal (WC.cond_false rfl (WC.seq (WC.region (?_))))))
            refine WL.eql? rfl rfl rfl (fun h101 => ?_) (fun h101 => ?_)
            ·
              refine WL.assign rfl rfl (WL.nil (WX.then_normal (WC.cond_true rfl (WC.seq (WC.seq (WC.region (WL.move rfl rfl (?_))))))))
              refine WL.len Try.underlying55 rfl rfl (?_)
              refine WL.eql? rfl rfl rfl (fun h104 => ?_) (fun h104 => ?_)
              ·
                refine WL.nil (WX.then_normal (WC.cond_true rfl (WC.exit (WX.then_exit (WX.block_on rfl (WX.pass (WX.then_exit (?_))))))))
                refine WX.block_here (WX.then_normal (WC.region (WL.move rfl rfl (WL.add64 rfl rfl (by first | omega | (constructor <;> omega)) rfl (WL.assign rfl rfl (WL.nil (?_)))))))
                first
                  | exact WX.loop_next (i + 1, ⟨x.l, ⟨aH, cH, x.H.xs ++ [(i : Int)]⟩, ⟨aO, cO, x.O.xs ++ [(i : Int)]⟩, ⟨aB, cB, x.B.xs ++ [1 + (i : Int) % (bs : Int)]⟩, x.sao, x.sc, x.sn, aF, cF, x.fl ++ [false]⟩) ⟨rfl, rfl, rfl, rfl, rfl, rfl, rfl, rfl, rfl, rfl, rfl, trivial⟩ ⟨⟨by show i + 1 ≤ 4; omega, .inr (by show i + 1 ≤ od; omega)⟩, ⟨by show (x.B.xs ++ [_]).length = i + 1; simp [hBl], fun b hb => (by
                      rcases List.mem_append.1 hb with h1 | h1
                      ·
                        exact hBb b h1
                      ·
                        rw [List.mem_singleton.1 h1]; omega), by show x.H.xs ++ [(i : Int)] = _; rw [List.range_succ, List.map_append, hHx]; rfl, by show x.O.xs ++ [(i : Int)] = _; rw [List.range_succ, List.map_append, hOx]; rfl, by show x.fl ++ [false] = _; rw [hfl, List.replicate_succ']⟩, hE4, hA⟩ (by show 4 - (i + 1) < 4 - i; omega)
                  | exact WX.loop_next (j + 1, _, fl2.set p.a.toNat true) ⟨rfl, rfl, rfl, rfl, rfl, rfl, rfl, by simp [List.lookup, ev, List.length_set], rfl, rfl, rfl, trivial⟩ ⟨⟨by show j + 1 ≤ _; omega, hMk.step hp hp0⟩, hX9, hT, hA⟩ (by show td.ps.length - (j + 1) < td.ps.length - j; omega)
                  | exact WX.loop_next (k + 1, true) ⟨rfl, rfl, rfl, rfl, rfl, rfl, rfl, rfl, rfl, rfl, rfl, rfl, trivial⟩ ⟨⟨by show k + 1 ≤ _; omega, (by
                      have h1 := hbq.1 hb254
                      refine ⟨fun _ => ?_, fun _ => rfl⟩
                      rcases h1 with h1 | h1 | ⟨V, hV, h1⟩
                      ·
                        exact .inl h1
                      ·
                        exact .inr (.inl h1)
                      ·
                        exact .inr (.inr ⟨V, (List.take_subset_take_left _ (Nat.le_succ k)) hV, h1⟩))⟩, hX, hA⟩ (by show y.sn.length - (k + 1) < y.sn.length - k; omega)
                  | exact WX.loop_next (k + 1, decide ((m : Int) ∈ r.xs)) ⟨rfl, rfl, rfl, rfl, rfl, rfl, rfl, rfl, rfl, rfl, rfl, rfl, trivial⟩ ⟨⟨by show k + 1 ≤ _; omega, (by
                      have h1 : ¬ ((m : Int) ∈ y.H.xs ∨ (m : Int) ∈ y.O.xs ∨ ∃ V ∈ (vsI y.sn).take k, (m : Int) ∈ V) := fun h3 => by have := hbq.2 h3; rw [hb254] at this; cases this
                      show decide ((m : Int) ∈ r.xs) = true ↔ (m : Int) ∈ y.H.xs ∨ (m : Int) ∈ y.O.xs ∨ ∃ V ∈ (vsI y.sn).take (k + 1), (m : Int) ∈ V
                      rw [List.take_add_one, vsI_at hr, decide_eq_true_iff]
                      constructor
                      ·
                        intro h2
                        exact .inr (.inr ⟨r.xs, by simp, h2⟩)
                      ·
                        rintro (h2 | h2 | ⟨V, hV, h2⟩)
                        ·
                          exact absurd (.inl h2) h1
                        ·
                          exact absurd (.inr (.inl h2)) h1
                        ·
                          rcases List.mem_append.1 hV with h3 | h3
                          ·
                            exact absurd (.inr (.inr ⟨V, h3, h2⟩)) h1
                          ·
                            rw [show V = r.xs by simpa using h3] at h2
                            exact h2)⟩, hX, hA⟩ (by show y.sn.length - (k + 1) < y.sn.length - k; omega)
                  | exact WX.loop_next (m + 1) ⟨rfl, rfl, rfl, rfl, rfl, rfl, rfl, rfl, rfl, rfl, trivial⟩ ⟨by omega, hX, hA⟩ (by omega)
                  | exact WX.loop_next (i + 1, t + 1, n2, y) ⟨rfl, rfl, rfl, rfl, rfl, rfl, rfl, rfl, rfl, trivial⟩ ⟨⟨by show i + 1 ≤ _; omega, by show i + 1 ≤ _; omega⟩, hM2, hX, hA⟩ (by show 80 - (i + 1) < 80 - i; omega)
                  | exact WX.loop_next (i + 1, t + 1, n, x) ⟨rfl, rfl, rfl, rfl, rfl, rfl, rfl, rfl, rfl, trivial⟩ ⟨⟨by show i + 1 ≤ _; omega, by show i + 1 ≤ _; omega⟩, hM.skip, hX, hA⟩ (by show 80 - (i + 1) < 80 - i; omega)
              ·
                refine WL.nil (WX.then_normal (WC.cond_false rfl (WC.skip (WX.then_normal (WC.seq (WC.region (WL.move rfl rfl (?_))))))))
                refine WL.move rfl rfl (?_)
                have hw0 : ∃ kk, kk = (B64 o.2 % B64 (x.H.xs.length : Int)).toNat := ⟨_, rfl⟩
                obtain ⟨kk, hkk⟩ := hw0
                have hBl : (B64 (x.H.xs.length : Int)).toNat = x.H.xs.length := B64_nat (by omega)
                have hkl : kk < x.H.xs.length := by rw [hkk, UInt64.toNat_mod, hBl]; exact Nat.mod_lt _ (by omega)
                refine WL.indexT (e := eop2) Try.underlying53 Try.sizeOf59 hA rfl rfl ⟨ho, rfl⟩ rfl ?_
                intro bb2 oo2 hcc2
                refine WL.fieldAddr (fld_59_1) rfl rfl (WL.load Try.isAgg3 rfl (hcc2 _ _ rfl) rfl (WL.c_i64_u64 Try.underlying3 Try.underlying54 rfl rfl (WL.move rfl rfl (WL.len Try.underlying55 rfl rfl (WL.c_i64_u64 Try.underlying3 Try.underlying54 rfl rfl (?_))))))
                refine WL.num rfl rfl (n_rem64 _ _ _ _ (by rw [hBl]; omega)) rfl ?_
                refine WL.c_u64_i64s (n := kk) Try.underlying54 Try.underlying3 rfl ⟨hkk.symm, by omega⟩ rfl ?_
                refine WL.assign rfl rfl (WL.nil (WX.then_normal (WC.seq (?_))))
                obtain ⟨y, hy⟩ : ∃ y, x.H.xs[kk]? = some y := ⟨_, List.getElem?_eq_getElem hkl⟩
                have hyl := hM.hi.lt (List.mem_of_getElem? hy)
                have hby : x.B.xs[y.toNat]? = some (birth x.B.xs y) := by
                  rw [birth, List.getElem?_eq_getElem (show y.toNat < x.B.xs.length by omega)]
                  rfl
                obtain ⟨pb, po, hpo⟩ := hX.head.rsl.place hy
                obtain ⟨qb, qo, hqo⟩ := hX.births.rsl.place hby
                refine WC.draw (Nob) [0, 1, 2, 3, 4, 5, 6, 7, 8, 9, 10, 11] [12, 13] mixed rfl rfl (fun wd_2 kd_2 zd_2 => ?_)
                have zs_kd_2 := kd_2.size
                replace hX := hX.pure kd_2
                replace hA := hA.pure kd_2
                apply DQ.step (E' := [(9, _)])
                case ho => rfl
                case hs => exact ⟨rfl, trivial⟩
                case hk => rfl
                case h1 =>
                  intro wq_4 kq_4
                  refine WL.move rfl rfl (?_)
                  refine WL.nil ?_
                  exact WX.one ⟨rfl, by first | exact Chg.refl _ _ | assumption⟩
                apply DQ.step (E' := [(18, _)])
                case ho => rfl
                case hs => exact ⟨rfl, trivial⟩
                case hk => rfl
                case h1 =>
                  intro wq_5 kq_5
                  refine WL.move rfl rfl (?_)
                  refine WL.nil ?_
                  exact WX.one ⟨rfl, by first | exact Chg.refl _ _ | assumption⟩
                apply DQ.step (E' := [(116, _), (117, _)])
                case ho => rfl
                case hs => exact ⟨rfl, rfl, trivial⟩
                case hk => rfl
                case h1 =>
                  intro wq_6 kq_6
                  have zs_kq_6 := kq_6.size
                  replace hX := hX.pure kq_6
                  replace hA := hA.pure kq_6
                  have hHq := hX.head.rsl
                  rw [hpo] at hHq
                  refine WL.indexC (e := ei) hHq Try.underlying55 Try.sizeOf3 (by show some (Value.slice x.H.ao _ _) = _; rw [hpo]) rfl ⟨hy, rfl⟩ rfl ?_
                  refine WL.nil ?_
                  exact WX.one ⟨rfl, by first | exact Chg.refl _ _ | assumption⟩
                apply DQ.step (E' := [(118, _)])
                case ho => rfl
                case hs => exact ⟨rfl, trivial⟩
                case hk => rfl
                case h1 =>
                  intro wq_7 kq_7
                  have zs_kq_7 := kq_7.size
                  replace hX := hX.pure kq_7
                  replace hA := hA.pure kq_7
                  have hHq := hX.head.rsl
                  rw [hpo] at hHq
                  refine WL.load Try.isAgg3 rfl (hHq.cellsAt hy 0 _ rfl) rfl ?_
                  refine WL.nil ?_
                  exact WX.one ⟨rfl, by first | exact Chg.refl _ _ | assumption⟩
                apply DQ.step (E' := [(12, _)])
                case ho => rfl
                case hs => exact ⟨rfl, trivial⟩
                case hk => rfl
                case h1 =>
                  intro wq_8 kq_8
                  refine WL.move rfl rfl (?_)
                  refine WL.nil ?_
                  exact WX.one ⟨rfl, by first | exact Chg.refl _ _ | assumption⟩
                apply DQ.step (E' := [(9, _)])
                case ho => rfl
                case hs => exact ⟨rfl, trivial⟩
                case hk => rfl
                case h1 =>
                  intro wq_9 kq_9
                  refine WL.move rfl rfl (?_)
                  refine WL.nil ?_
                  exact WX.one ⟨rfl, by first | exact Chg.refl _ _ | assumption⟩
                apply DQ.step (E' := [(18, _)])
                case ho => rfl
                case hs => exact ⟨rfl, trivial⟩
                case hk => rfl
                case h1 =>
                  intro wq_10 kq_10
                  refine WL.move rfl rfl (?_)
                  refine WL.nil ?_
                  exact WX.one ⟨rfl, by first | exact Chg.refl _ _ | assumption⟩
                apply DQ.step (E' := [(121, _), (122, _)])
                case ho => rfl
                case hs => exact ⟨rfl, rfl, trivial⟩
                case hk => rfl
                case h1 =>
                  intro wq_11 kq_11
                  have zs_kq_11 := kq_11.size
                  replace hX := hX.pure kq_11
                  replace hA := hA.pure kq_11
                  have hHq := hX.head.rsl
                  rw [hpo] at hHq
                  refine WL.indexC (e := ei) hHq Try.underlying55 Try.sizeOf3 (by show some (Value.slice x.H.ao _ _) = _; rw [hpo]) rfl ⟨hy, rfl⟩ rfl ?_
                  refine WL.nil ?_
                  exact WX.one ⟨rfl, by first | exact Chg.refl _ _ | assumption⟩
                apply DQ.step (E' := [(123, _)])
                case ho => rfl
                case hs => exact ⟨rfl, trivial⟩
                case hk => rfl
                case h1 =>
                  intro wq_12 kq_12
                  have zs_kq_12 := kq_12.size
                  replace hX := hX.pure kq_12
                  replace hA := hA.pure kq_12
                  have hHq := hX.head.rsl
                  rw [hpo] at hHq
                  refine WL.load Try.isAgg3 rfl (hHq.cellsAt hy 0 _ rfl) rfl ?_
                  refine WL.nil ?_
                  exact WX.one ⟨rfl, by first | exact Chg.refl _ _ | assumption⟩
                apply DQ.step (E' := [(120, _), (124, _)])
                case ho => rfl
                case hs => exact ⟨rfl, rfl, trivial⟩
                case hk => rfl
                case h1 =>
                  intro wq_13 kq_13
                  have zs_kq_13 := kq_13.size
                  replace hX := hX.pure kq_13
                  replace hA := hA.pure kq_13
                  have hBq := hX.births.rsl
                  rw [hqo] at hBq
                  refine WL.indexC (e := ei) hBq Try.underlying55 Try.sizeOf3 (by show some (Value.slice x.B.ao _ _) = _; rw [hqo]) rfl ⟨hby, by omega⟩ rfl ?_
                  refine WL.nil ?_
                  exact WX.one ⟨rfl, by first | exact Chg.refl _ _ | assumption⟩
                apply DQ.step (E' := [(125, _)])
                case ho => rfl
                case hs => exact ⟨rfl, trivial⟩
                case hk => rfl
                case h1 =>
                  intro wq_14 kq_14
                  have zs_kq_14 := kq_14.size
                  replace hX := hX.pure kq_14
                  replace hA := hA.pure kq_14
                  have hBq := hX.births.rsl
                  rw [hqo] at hBq
                  refine WL.load Try.isAgg3 rfl (hBq.cellsAt hby 0 _ rfl) rfl ?_
                  refine WL.nil ?_
                  exact WX.one ⟨rfl, by first | exact Chg.refl _ _ | assumption⟩
                apply DQ.step (E' := [(119, _), (126, _)])
                case ho => rfl
                case hs => exact ⟨rfl, rfl, trivial⟩
                case hk => rfl
                case h1 =>
                  intro wq_15 kq_15
                  refine WL.bld rfl (bld_27_0_2 _ _) rfl (?_)
                  refine WL.nil ?_
                  exact WX.one ⟨rfl, by first | exact Chg.refl _ _ | assumption⟩
                refine DQ.done (fun hd_3 => ?_)
                refine DL.step [] rfl trivial rfl (fun wq_16 kq_16 => ?_)
                have zs_kq_16 := kq_16.size
                replace hX := hX.pure kq_16
                replace hA := hA.pure kq_16
                replace hd_3 := hd_3.pure kq_16
                have hnl := hX.le
                refine WL.alloc Try.zeroValue27 rfl ?_
                intro g19 w19 hge19 hlt19 hb19 k19
                have hg89 : g19 ≠ g8 := by have := hX.g8n.2; omega
                have zs_k19 := k19.size
                replace hX := hX.pure k19
                replace hA := hA.pure k19
                replace hd_3 := hd_3.pure k19
                refine WL.nil ?_
                refine WX.one ⟨hd_3, ?_⟩
                refine DL.step [(19, _), (127, _)] rfl ⟨rfl, rfl, trivial⟩ rfl (fun wq_17 kq_17 => ?_)
                have zs_kq_17 := kq_17.size
                replace hX := hX.pure kq_17
                replace hA := hA.pure kq_17
                replace hd_3 := hd_3.pure kq_17
                replace hb19 := hb19.pure kq_17
                refine WL.stores Try.sizeOf27 hb19 rfl rfl (by first | (simp; done) | (simp; omega) | rfl) (by first | exact Enc.one _ _ | (intro u hu; obtain ⟨x, _, rfl⟩ := List.mem_map.1 hu; rfl) | (simp [Value.oneCell']; done) | (simp [Value.oneCell', Value.cells]; done)) (by first | (simp; done) | (simp; omega) | (simp [Value.cells]; done) | (simp [Value.cells]; omega) | exact Nat.le_of_ble_eq_true rfl) rfl ?_
                intro w_18 hs_18 hn_18 k_18
                have zs_k_18 := k_18.size
                replace hX := hX.chg k_18 (by first | (intro x h1 h2; exact h2) | (intro x h1 h2; have h3 : _ = _ := h2; exfalso; omega) | (intro b h1 h2 h3; have h4 : _ = _ := h3; (try dsimp only at h2); exfalso; omega) | (intro h1; have h2 : _ = _ := h1; exfalso; omega) | (intros; exfalso; (try dsimp only at *); omega) | (intro b h1 h2 h3; exfalso; have h4 := h3.2; (try dsimp only at *); omega) | (intro h1; exfalso; have h4 := h1.2; (try dsimp only at *); omega))
                replace hA := hA.chg k_18 (by first | (intro x h1 h2; exact h2) | (intro x h1 h2; have h3 : _ = _ := h2; exfalso; omega) | (intro b h1 h2 h3; have h4 : _ = _ := h3; (try dsimp only at h2); exfalso; omega) | (intro h1; have h2 : _ = _ := h1; exfalso; omega) | (intros; exfalso; (try dsimp only at *); omega) | (intro b h1 h2 h3; exfalso; have h4 := h3.2; (try dsimp only at *); omega) | (intro h1; exfalso; have h4 := h1.2; (try dsimp only at *); omega))
                replace hd_3 := hd_3.chg k_18 (by first | (intro x h1 h2; exact h2) | (intro x h1 h2; have h3 : _ = _ := h2; exfalso; omega) | (intro b h1 h2 h3; have h4 : _ = _ := h3; (try dsimp only at h2); exfalso; omega) | (intro h1; have h2 : _ = _ := h1; exfalso; omega) | (intros; exfalso; (try dsimp only at *); omega) | (intro b h1 h2 h3; exfalso; have h4 := h3.2; (try dsimp only at *); omega) | (intro h1; exfalso; have h4 := h1.2; (try dsimp only at *); omega))
                replace hb19 := hn_18
                refine WL.nil ?_
                refine WX.one0 (v := undef) ⟨hd_3, ?_⟩
                refine DL.done (fun we_19 ke_19 => ?_)
                have zs_ke_19 := ke_19.size
                replace hX := hX.pure ke_19
                replace hA := hA.pure ke_19
                replace hd_3 := hd_3.pure ke_19
                replace hb19 := hb19.pure ke_19
                refine WX.then_normal (WC.seq (WC.region (WL.assign rfl rfl (WL.nil (WX.then_normal (WC.seq (WC.region (?_))))))))
                have hb19' : Blk _ g19 27 (ept.f ⟨y, 0, birth x.B.xs y, ByteArray.empty⟩) := hb19
                refine WL.loadsB Try.isAgg33 Try.sizeOf33 hX.line rfl rfl rfl ?_
                refine WL.loadsB Try.isAgg27 Try.sizeOf27 hb19' rfl (by first | (simp; done) | (simp; omega) | rfl) rfl (?_)
                have hsl : x.l.snaps.length = x.sn.length := by have h1 := hM.hi.len; rw [hVl] at h1; rw [← h1]; exact (sabs_len _).symm
                obtain ⟨hsm, hzz⟩ := all_sm (n := 90) (show (allP x.l.abs).length ≤ 90 by omega) (by omega) (by omega)
                refine WL.call eg_13 rfl rfl (Kill_calls hX.lw.ls (hsm.up (by decide)) ⟨y, 0, birth x.B.xs y, ByteArray.empty⟩) ?_
                rintro v w3 ⟨⟨l', bk, e', rfl, hKR, hOk⟩, k3⟩
                obtain ⟨rfl, hP⟩ := hM.kill hy hKR
                have hnl3 := hX.le
                have hzk3 := k3.size
                have zs_k3 := k3.size
                replace hX := hX.pure k3
                replace hA := hA.pure k3
                replace hb19' := hb19'.pure k3
                replace hX := hX.now
                have hLk := hOk.lw.lt
                obtain ⟨n3, hn3⟩ := szNow hX.hw
                rw [← hn3] at hX
                have hLn : LW (· < n3) _ l' := hLk.mono (fun b hb => by have := hb.2; omega)
                have hg193 : g19 < n3 := by have := hb19'.lt; omega
                refine WL.move rfl rfl (WL.extract rfl rfl rfl (?_))
                refine WL.extract rfl rfl rfl ?_
                refine WL.extract rfl rfl rfl (?_)
                refine WL.stores Try.sizeOf33 hX.line rfl rfl rfl (by simp [Value.oneCell']) (by simp) rfl ?_
                intro w8 z8 hn8 k8
                have hX8 := hX.setLine (l' := l') k8 hn8 hLn
                replace hA := hA.chg k8 (fun b _ h2 h3 => by have h4 : b = g8 := h3; have := hX.g8n.1; omega)
                first
                  | (replace hb19' := hb19'.chg k8 hg89
                     skip)
                  | (replace hT := hT.chg k8 (fun b _ h2 h3 => by have h4 : b = g8 := h3; omega)
                     skip)
                  | skip
                refine WL.assign rfl rfl (WL.assign rfl rfl (WL.nil (WX.then_normal (WC.seq (WC.seq (WC.region (WL.move rfl rfl (?_))))))))
                refine WL.nil (WX.then_normal (?_))
                first | refine WC.cond_dec rfl (fun hc135 => ?_) (fun hc135 => ?_) | refine WC.cond_split rfl (fun hc135 => ?_) (fun hc135 => ?_)
                ·
                  refine WC.region (WL.move rfl rfl (WL.loadsB Try.isAgg27 Try.sizeOf27 hb19' rfl (by first | (simp; done) | (simp; omega) | rfl) rfl (?_)))
                  refine WL.build (e := ept) [⟨y, 0, birth x.B.xs y, ByteArray.empty⟩] Try.underlying23 Try.sizeOf27 Try.zeroValue27 rfl rfl rfl (by first | (simp [Value.cells]; done) | (simp [Value.cells] <;> rfl) | (simp [Value.cells, eb, ei, es, ebool, e32, e64]; done)) (by decide) rfl ?_
                  intro a_q7 w_q7 q7 l_q7 z_q7 k_q7
                  have zs_k_q7 := k_q7.size
                  replace hA := hA.pure k_q7
                  replace hb19' := hb19'.pure k_q7
                  replace hX8 := hX8.pure k_q7
                  refine WL.append (e := ept) (xs := []) (S := fun b => n3 ≤ b) info_27 rfl Try.underlying23 rfl rfl (Row.nil _ _ _ _) (q7.rsl.src Try.underlying23) (by show (0 + 1) * 40 ≤ _ ∧ 0 + 1 ≤ _; decide) (fun b hb => by have := hX8.le; omega) rfl ?_
                  intro aT cT w9 hT gT nT
                  have kT := gT.chg.mono (fun x _ hx => hx.2)
                  have zs_kT := kT.size
                  replace hA := hA.chg kT (by first | (intro x h1 h2; exact h2) | (intro x h1 h2; have h3 : _ = _ := h2; exfalso; omega) | (intro b h1 h2 h3; have h4 : _ = _ := h3; (try dsimp only at h2); exfalso; omega) | (intro h1; have h2 : _ = _ := h1; exfalso; omega) | (intros; exfalso; (try dsimp only at *); omega) | (intro b h1 h2 h3; exfalso; have h4 := h3.2; (try dsimp only at *); omega) | (intro h1; exfalso; have h4 := h1.2; (try dsimp only at *); omega))
                  replace hX8 := hX8.chg kT (by first | (intro x h1 h2; exact h2) | (intro x h1 h2; have h3 : _ = _ := h2; exfalso; omega) | (intro b h1 h2 h3; have h4 : _ = _ := h3; (try dsimp only at h2); exfalso; omega) | (intro h1; have h2 : _ = _ := h1; exfalso; omega) | (intros; exfalso; (try dsimp only at *); omega) | (intro b h1 h2 h3; exfalso; have h4 := h3.2; (try dsimp only at *); omega) | (intro h1; exfalso; have h4 := h1.2; (try dsimp only at *); omega))
                  refine WL.assign rfl rfl (WL.nil (WX.then_normal (WC.region (WL.move rfl rfl (WL.move rfl rfl (?_))))))
                  have hnl8 := hX8.le
                  refine WL.call eg_21 rfl rfl (without_calls hX8.head.rsl (by show x.H.xs.length ≤ _; omega) kk hkl) ?_
                  rintro v w10 ⟨⟨aW, cW, rfl, hW⟩, k10⟩
                  have zs_k10 := k10.size
                  replace hA := hA.pure k10
                  replace hX8 := hX8.pure k10
                  replace hT := hT.pure k10
                  have hX9 := hX8.setHead (H := ⟨aW, cW, x.H.xs.take kk ++ x.H.xs.drop (kk + 1)⟩) hW (fun b hb => by omega)
                  refine WL.assign rfl rfl (WL.nil (WX.block_normal (?_)))
                  first
                    | exact WX.cutN (i, x) ⟨rfl, rfl, rfl, rfl, rfl, rfl, rfl, rfl, trivial⟩ ⟨(by
                        have h1 := MX.start (bs := (bs : Int)) (n := i) (bi := x.B.xs) hi4 ⟨by omega, by omega⟩ hBl hBb
                        rw [← hOx, ← hfl] at h1
                        rw [hHx, ← hOx]
                        exact h1), hE.ex, hA⟩
                    | exact WX.cutN (_, ⟨x.l, ⟨aH, cH, x.H.xs ++ [(x.B.xs.length : Int)]⟩, x.O, ⟨aB, cB, x.B.xs ++ [t + 1]⟩, x.sao, x.sc, x.sn, aF, cF, x.fl ++ [false]⟩, ⟨none, 0, []⟩) ⟨rfl, rfl, rfl, rfl, rfl, rfl, rfl, rfl, rfl, rfl, rfl, trivial⟩ ⟨hM.born, by show 0 ≤ 1000; decide, hX3, Row.nil _ _ _ _, hA⟩
                    | exact WX.cutN (_, ⟨l', ⟨aW, cW, x.H.xs.take kk ++ x.H.xs.drop (kk + 1)⟩, x.O, x.B, x.sao, x.sc, x.sn, x.fao, x.fc, x.fl⟩, ⟨aT, cT, [⟨y, 0, birth x.B.xs y, ByteArray.empty⟩]⟩) ⟨rfl, rfl, rfl, rfl, rfl, rfl, rfl, rfl, rfl, rfl, rfl, trivial⟩ ⟨(by rw [if_pos hc135] at hP; exact hP), by show 1 ≤ 1000; decide, hX9, hT.mono (fun _ _ => trivial), hA⟩
                    | exact WX.cutN (_, ⟨l', ⟨aW, cW, x.H.xs.take kk ++ x.H.xs.drop (kk + 1)⟩, x.O, x.B, x.sao, x.sc, x.sn, x.fao, x.fc, x.fl⟩, ⟨none, 0, []⟩) ⟨rfl, rfl, rfl, rfl, rfl, rfl, rfl, rfl, rfl, rfl, rfl, trivial⟩ ⟨(by rw [if_neg (by simp [hc135])] at hP; exact hP), by show 0 ≤ 1000; decide, hX9, Row.nil _ _ _ _, hA⟩
                    | exact WX.cutN (_, ⟨l', x.H, x.O, x.B, aS, cS, x.sn ++ [⟨aQ, cQ, x.H.xs⟩], x.fao, x.fc, x.fl⟩, ⟨none, 0, []⟩) ⟨rfl, rfl, rfl, rfl, rfl, rfl, rfl, rfl, rfl, rfl, rfl, trivial⟩ ⟨(by show PX _ _ _ _ (vsI (x.sn ++ [⟨aQ, cQ, x.H.xs⟩])) _ _ _ _; rw [vsI_app]; exact hP), by show 0 ≤ 1000; decide, hX9, Row.nil _ _ _ _, hA⟩
                    | exact WX.cutN (_, ⟨l', x.H, x.O, x.B, a14, c14, x.sn.take kk ++ x.sn.drop (kk + 1), x.fao, x.fc, x.fl⟩, ⟨fao, fc, fr⟩) ⟨rfl, rfl, rfl, rfl, rfl, rfl, rfl, rfl, rfl, rfl, rfl, trivial⟩ ⟨(by show PX _ _ _ _ (vsI (x.sn.take kk ++ x.sn.drop (kk + 1))) _ _ _ _; rw [vsI_cut]; exact hP), by show fr.length ≤ 1000; omega,
                        hX8.setS hR (Chg.refl Nob _) (fun b _ h => h.elim) (.inr (hR.at_.mono (fun b hb => by omega))) (fun r hr => .inl (by
                          rcases List.mem_append.1 hr with h1 | h1
                          ·
                            exact List.mem_of_mem_take h1
                          ·
                            exact List.mem_of_mem_drop h1)), hT.mono (fun _ _ => trivial), hA⟩
                    | exact WX.cutN (_, x, ⟨none, 0, []⟩) ⟨rfl, rfl, rfl, rfl, rfl, rfl, rfl, rfl, rfl, rfl, rfl, trivial⟩ ⟨hM.idle, by show 0 ≤ 1000; decide, hX, Row.nil _ _ _ _, hA⟩
                ·
                  refine WC.skip (WX.then_normal (WC.region (WL.move rfl rfl (WL.move rfl rfl (?_)))))
                  have hnl8 := hX8.le
                  refine WL.call eg_21 rfl rfl (without_calls hX8.head.rsl (by show x.H.xs.length ≤ _; omega) kk hkl) ?_
                  rintro v w10 ⟨⟨aW, cW, rfl, hW⟩, k10⟩
                  have zs_k10 := k10.size
                  replace hA := hA.pure k10
                  replace hb19' := hb19'.pure k10
                  replace hX8 := hX8.pure k10
                  have hX9 := hX8.setHead (H := ⟨aW, cW, x.H.xs.take kk ++ x.H.xs.drop (kk + 1)⟩) hW (fun b hb => by omega)
                  refine WL.assign rfl rfl (WL.nil (WX.block_normal (?_)))
                  first
                    | exact WX.cutN (i, x) ⟨rfl, rfl, rfl, rfl, rfl, rfl, rfl, rfl, trivial⟩ ⟨(by
                        have h1 := MX.start (bs := (bs : Int)) (n := i) (bi := x.B.xs) hi4 ⟨by omega, by omega⟩ hBl hBb
                        rw [← hOx, ← hfl] at h1
                        rw [hHx, ← hOx]
                        exact h1), hE.ex, hA⟩
                    | exact WX.cutN (_, ⟨x.l, ⟨aH, cH, x.H.xs ++ [(x.B.xs.length : Int)]⟩, x.O, ⟨aB, cB, x.B.xs ++ [t + 1]⟩, x.sao, x.sc, x.sn, aF, cF, x.fl ++ [false]⟩, ⟨none, 0, []⟩) ⟨rfl, rfl, rfl, rfl, rfl, rfl, rfl, rfl, rfl, rfl, rfl, trivial⟩ ⟨hM.born, by show 0 ≤ 1000; decide, hX3, Row.nil _ _ _ _, hA⟩
                    | exact WX.cutN (_, ⟨l', ⟨aW, cW, x.H.xs.take kk ++ x.H.xs.drop (kk + 1)⟩, x.O, x.B, x.sao, x.sc, x.sn, x.fao, x.fc, x.fl⟩, ⟨aT, cT, [⟨y, 0, birth x.B.xs y, ByteArray.empty⟩]⟩) ⟨rfl, rfl, rfl, rfl, rfl, rfl, rfl, rfl, rfl, rfl, rfl, trivial⟩ ⟨(by rw [if_pos hc135] at hP; exact hP), by show 1 ≤ 1000; decide, hX9, hT.mono (fun _ _ => trivial), hA⟩
                    | exact WX.cutN (_, ⟨l', ⟨aW, cW, x.H.xs.take kk ++ x.H.xs.drop (kk + 1)⟩, x.O, x.B, x.sao, x.sc, x.sn, x.fao, x.fc, x.fl⟩, ⟨none, 0, []⟩) ⟨rfl, rfl, rfl, rfl, rfl, rfl, rfl, rfl, rfl, rfl, rfl, trivial⟩ ⟨(by rw [if_neg (by simp [hc135])] at hP; exact hP), by show 0 ≤ 1000; decide, hX9, Row.nil _ _ _ _, hA⟩
                    | exact WX.cutN (_, ⟨l', x.H, x.O, x.B, aS, cS, x.sn ++ [⟨aQ, cQ, x.H.xs⟩], x.fao, x.fc, x.fl⟩, ⟨none, 0, []⟩) ⟨rfl, rfl, rfl, rfl, rfl, rfl, rfl, rfl, rfl, rfl, rfl, trivial⟩ ⟨(by show PX _ _ _ _ (vsI (x.sn ++ [⟨aQ, cQ, x.H.xs⟩])) _ _ _ _; rw [vsI_app]; exact hP), by show 0 ≤ 1000; decide, hX9, Row.nil _ _ _ _, hA⟩
                    | exact WX.cutN (_, ⟨l', x.H, x.O, x.B, a14, c14, x.sn.take kk ++ x.sn.drop (kk + 1), x.fao, x.fc, x.fl⟩, ⟨fao, fc, fr⟩) ⟨rfl, rfl, rfl, rfl, rfl, rfl, rfl, rfl, rfl, rfl, rfl, trivial⟩ ⟨(by show PX _ _ _ _ (vsI (x.sn.take kk ++ x.sn.drop (kk + 1))) _ _ _ _; rw [vsI_cut]; exact hP), by show fr.length ≤ 1000; omega,
                        hX8.setS hR (Chg.refl Nob _) (fun b _ h => h.elim) (.inr (hR.at_.mono (fun b hb => by omega))) (fun r hr => .inl (by
                          rcases List.mem_append.1 hr with h1 | h1
                          ·
                            exact List.mem_of_mem_take h1
                          ·
                            exact List.mem_of_mem_drop h1)), hT.mono (fun _ _ => trivial), hA⟩
                    | exact WX.cutN (_, x, ⟨none, 0, []⟩) ⟨rfl, rfl, rfl, rfl, rfl, rfl, rfl, rfl, rfl, rfl, rfl, trivial⟩ ⟨hM.idle, by show 0 ≤ 1000; decide, hX, Row.nil _ _ _ _, hA⟩
            ·
              refine WL.assign rfl rfl (WL.nil (WX.then_normal (WC.cond_false rfl (WC.seq (WC.region (?_))))))
              refine WL.eql? rfl rfl rfl (fun h144 => ?_) (fun h144 => ?_)
              ·
                refine WL.assign rfl rfl (WL.nil (WX.then_normal (WC.cond_true rfl (WC.seq (WC.region (?_))))))
                have hnl := hX.le
                refine WL.loadsB Try.isAgg33 Try.sizeOf33 hX.line rfl rfl rfl ?_
                refine WL.move rfl rfl (?_)
                have hsl : x.l.snaps.length = x.sn.length := by have h1 := hM.hi.len; rw [hVl] at h1; rw [← h1]; exact (sabs_len _).symm
                obtain ⟨hsm, hzz⟩ := all_sm (n := 90) (show (allP x.l.abs).length ≤ 90 by omega) (by omega) (by omega)
                refine WL.call eg_17 rfl rfl (Snapshot_calls hX.lw.ls (hsm.up (by decide)) (t + 1)) ?_
                rintro v w3 ⟨⟨l', e', rfl, hSR, hOk⟩, k3⟩
                obtain ⟨rfl, hP⟩ := hM.snap hSR
                have hzk3 := k3.size
                have zs_k3 := k3.size
                replace hX := hX.pure k3
                replace hA := hA.pure k3
                replace hX := hX.now
                have hLk := hOk.lw.lt
                obtain ⟨n3, hn3⟩ := szNow hX.hw
                rw [← hn3] at hX
                have hLn : LW (· < n3) _ l' := hLk.mono (fun b hb => by have := hb.2; omega)
                refine WL.move rfl rfl (WL.extract rfl rfl rfl (WL.extract rfl rfl rfl (?_)))
                refine WL.stores Try.sizeOf33 hX.line rfl rfl rfl (by simp [Value.oneCell']) (by simp) rfl ?_
                intro w8 z8 hn8 k8
                have hX8 := hX.setLine (l' := l') k8 hn8 hLn
                replace hA := hA.chg k8 (fun b _ h2 h3 => by have h4 : b = g8 := h3; have := hX.g8n.1; omega)
                first
                  | (replace hb19' := hb19'.chg k8 hg89
                     skip)
                  | (replace hT := hT.chg k8 (fun b _ h2 h3 => by have h4 : b = g8 := h3; omega)
                     skip)
                  | skip
                refine WL.assign rfl rfl (WL.nil (WX.then_normal (WC.region (WL.move rfl rfl (?_)))))
                have hnl8 := hX8.le
                refine WL.build (e := ei) [] Try.underlying55 Try.sizeOf3 Try.zeroValue3 rfl rfl rfl (by first | (simp [Value.cells]; done) | (simp [Value.cells] <;> rfl) | (simp [Value.cells, eb, ei, es, ebool, e32, e64]; done)) (by decide) rfl ?_
                intro a_q8 w_q8 q8 l_q8 z_q8 k_q8
                have zs_k_q8 := k_q8.size
                replace hA := hA.pure k_q8
                replace hX8 := hX8.pure k_q8
                refine WL.move rfl rfl (?_)
                refine WL.append (e := ei) (xs := []) (S := fun b => n3 ≤ b) info_3 rfl Try.underlying55 rfl rfl (q8.mono (fun b hb => by omega)) (hX8.head.rsl.src Try.underlying55) (by show (0 + x.H.xs.length) * 8 ≤ _ ∧ 0 + x.H.xs.length ≤ _; constructor <;> omega) (fun b hb => by have := hX8.le; omega) rfl ?_
                intro aQ cQ w9 hQ gQ nQ
                have kQ := gQ.chg.mono (fun x _ hx => hx.2)
                have zs_kQ := kQ.size
                replace hA := hA.chg kQ (by first | (intro x h1 h2; exact h2) | (intro x h1 h2; have h3 : _ = _ := h2; exfalso; omega) | (intro b h1 h2 h3; have h4 : _ = _ := h3; (try dsimp only at h2); exfalso; omega) | (intro h1; have h2 : _ = _ := h1; exfalso; omega) | (intros; exfalso; (try dsimp only at *); omega) | (intro b h1 h2 h3; exfalso; have h4 := h3.2; (try dsimp only at *); omega) | (intro h1; exfalso; have h4 := h1.2; (try dsimp only at *); omega))
                replace hX8 := hX8.chg kQ (by first | (intro x h1 h2; exact h2) | (intro x h1 h2; have h3 : _ = _ := h2; exfalso; omega) | (intro b h1 h2 h3; have h4 : _ = _ := h3; (try dsimp only at h2); exfalso; omega) | (intro h1; have h2 : _ = _ := h1; exfalso; omega) | (intros; exfalso; (try dsimp only at *); omega) | (intro b h1 h2 h3; exfalso; have h4 := h3.2; (try dsimp only at *); omega) | (intro h1; exfalso; have h4 := h1.2; (try dsimp only at *); omega))
                refine WL.build (e := erowI) [⟨aQ, cQ, x.H.xs⟩] Try.underlying56 Try.sizeOf55 Try.zeroValue55 rfl rfl rfl (by first | (simp [Value.cells]; done) | (simp [Value.cells] <;> rfl) | (simp [Value.cells, eb, ei, es, ebool, e32, e64]; done)) (by decide) rfl ?_
                intro a_q9 w_q9 q9 l_q9 z_q9 k_q9
                have zs_k_q9 := k_q9.size
                replace hA := hA.pure k_q9
                replace hX8 := hX8.pure k_q9
                replace hQ := hQ.pure k_q9
                refine WL.append (e := erowI) info_55 rfl Try.underlying56 rfl rfl (hX8.snaps.mono (S' := fun b => w.heap.size ≤ b) (fun b hb => hb.1)) (q9.rsl.src Try.underlying56) (by show (x.sn.length + 1) * 24 ≤ _ ∧ x.sn.length + 1 ≤ _; constructor <;> omega) (fun b hb => by have := hX8.hw.size; omega) rfl ?_
                intro aS cS w10 hS gS nS
                have hX9 := hX8.setS hS gS.chg (fun b _ hb => .inl hb.1) (gS.fr.imp id (fun h => h.mono (fun b hb => by have := hX8.le; omega))) (fun r hr => by
                  rcases List.mem_append.1 hr with h1 | h1
                  ·
                    exact .inl h1
                  ·
                    rw [List.mem_singleton.1 h1]
                    exact .inr hQ)
                replace hA := hA.chg gS.chg (fun b _ h2 h3 => by have := h3.2; omega)
                refine WL.assign rfl rfl (WL.nil (WX.block_normal (?_)))
                first
                  | exact WX.cutN (i, x) ⟨rfl, rfl, rfl, rfl, rfl, rfl, rfl, rfl, trivial⟩ ⟨(by
                      have h1 := MX.start (bs := (bs : Int)) (n := i) (bi := x.B.xs) hi4 ⟨by omega, by omega⟩ hBl hBb
                      rw [← hOx, ← hfl] at h1
                      rw [hHx, ← hOx]
                      exact h1), hE.ex, hA⟩
                  | exact WX.cutN (_, ⟨x.l, ⟨aH, cH, x.H.xs ++ [(x.B.xs.length : Int)]⟩, x.O, ⟨aB, cB, x.B.xs ++ [t + 1]⟩, x.sao, x.sc, x.sn, aF, cF, x.fl ++ [false]⟩, ⟨none, 0, []⟩) ⟨rfl, rfl, rfl, rfl, rfl, rfl, rfl, rfl, rfl, rfl, rfl, trivial⟩ ⟨hM.born, by show 0 ≤ 1000; decide, hX3, Row.nil _ _ _ _, hA⟩
                  | exact WX.cutN (_, ⟨l', ⟨aW, cW, x.H.xs.take kk ++ x.H.xs.drop (kk + 1)⟩, x.O, x.B, x.sao, x.sc, x.sn, x.fao, x.fc, x.fl⟩, ⟨aT, cT, [⟨y, 0, birth x.B.xs y, ByteArray.empty⟩]⟩) ⟨rfl, rfl, rfl, rfl, rfl, rfl, rfl, rfl, rfl, rfl, rfl, trivial⟩ ⟨(by rw [if_pos hc135] at hP; exact hP), by show 1 ≤ 1000; decide, hX9, hT.mono (fun _ _ => trivial), hA⟩
                  | exact WX.cutN (_, ⟨l', ⟨aW, cW, x.H.xs.take kk ++ x.H.xs.drop (kk + 1)⟩, x.O, x.B, x.sao, x.sc, x.sn, x.fao, x.fc, x.fl⟩, ⟨none, 0, []⟩) ⟨rfl, rfl, rfl, rfl, rfl, rfl, rfl, rfl, rfl, rfl, rfl, trivial⟩ ⟨(by rw [if_neg (by simp [hc135])] at hP; exact hP), by show 0 ≤ 1000; decide, hX9, Row.nil _ _ _ _, hA⟩
                  | exact WX.cutN (_, ⟨l', x.H, x.O, x.B, aS, cS, x.sn ++ [⟨aQ, cQ, x.H.xs⟩], x.fao, x.fc, x.fl⟩, ⟨none, 0, []⟩) ⟨rfl, rfl, rfl, rfl, rfl, rfl, rfl, rfl, rfl, rfl, rfl, trivial⟩ ⟨(by show PX _ _ _ _ (vsI (x.sn ++ [⟨aQ, cQ, x.H.xs⟩])) _ _ _ _; rw [vsI_app]; exact hP), by show 0 ≤ 1000; decide, hX9, Row.nil _ _ _ _, hA⟩
                  | exact WX.cutN (_, ⟨l', x.H, x.O, x.B, a14, c14, x.sn.take kk ++ x.sn.drop (kk + 1), x.fao, x.fc, x.fl⟩, ⟨fao, fc, fr⟩) ⟨rfl, rfl, rfl, rfl, rfl, rfl, rfl, rfl, rfl, rfl, rfl, trivial⟩ ⟨(by show PX _ _ _ _ (vsI (x.sn.take kk ++ x.sn.drop (kk + 1))) _ _ _ _; rw [vsI_cut]; exact hP), by show fr.length ≤ 1000; omega,
                      hX8.setS hR (Chg.refl Nob _) (fun b _ h => h.elim) (.inr (hR.at_.mono (fun b hb => by omega))) (fun r hr => .inl (by
                        rcases List.mem_append.1 hr with h1 | h1
                        ·
                          exact List.mem_of_mem_take h1
                        ·
                          exact List.mem_of_mem_drop h1)), hT.mono (fun _ _ => trivial), hA⟩
                  | exact WX.cutN (_, x, ⟨none, 0, []⟩) ⟨rfl, rfl, rfl, rfl, rfl, rfl, rfl, rfl, rfl, rfl, rfl, trivial⟩ ⟨hM.idle, by show 0 ≤ 1000; decide, hX, Row.nil _ _ _ _, hA⟩
              ·
                refine WL.assign rfl rfl (WL.nil (WX.then_normal (WC.cond_false rfl (WC.seq (WC.region (?_))))))
                refine WL.eql? rfl rfl rfl (fun h158 => ?_) (fun h158 => ?_)
                ·
                  refine WL.assign rfl rfl (WL.nil (WX.then_normal (WC.cond_true rfl (WC.seq (WC.seq (WC.region (WL.move rfl rfl (?_))))))))
                  refine WL.len Try.underlying56 rfl rfl (?_)
                  refine WL.eql? rfl rfl rfl (fun h161 => ?_) (fun h161 => ?_)
                  ·
                    refine WL.nil (WX.then_normal (WC.cond_true rfl (WC.exit (WX.then_exit (WX.block_on rfl (WX.pass (WX.then_exit (?_))))))))
                    refine WX.block_here (WX.then_normal (WC.region (WL.move rfl rfl (WL.add64 rfl rfl (by first | omega | (constructor <;> omega)) rfl (WL.assign rfl rfl (WL.nil (?_)))))))
                    first
                      | exact WX.loop_next (i + 1, ⟨x.l, ⟨aH, cH, x.H.xs ++ [(i : Int)]⟩, ⟨aO, cO, x.O.xs ++ [(i : Int)]⟩, ⟨aB, cB, x.B.xs ++ [1 + (i : Int) % (bs : Int)]⟩, x.sao, x.sc, x.sn, aF, cF, x.fl ++ [false]⟩) ⟨rfl, rfl, rfl, rfl, rfl, rfl, rfl, rfl, rfl, rfl, rfl, trivial⟩ ⟨⟨by show i + 1 ≤ 4; omega, .inr (by show i + 1 ≤ od; omega)⟩, ⟨by show (x.B.xs ++ [_]).length = i + 1; simp [hBl], fun b hb => (by
                          rcases List.mem_append.1 hb with h1 | h1
                          ·
                            exact hBb b h1
                          ·
                            rw [List.mem_singleton.1 h1]; omega), by show x.H.xs ++ [(i : Int)] = _; rw [List.range_succ, List.map_append, hHx]; rfl, by show x.O.xs ++ [(i : Int)] = _; rw [List.range_succ, List.map_append, hOx]; rfl, by show x.fl ++ [false] = _; rw [hfl, List.replicate_succ']⟩, hE4, hA⟩ (by show 4 - (i + 1) < 4 - i; omega)
                      | exact WX.loop_next (j + 1, _, fl2.set p.a.toNat true) ⟨rfl, rfl, rfl, rfl, rfl, rfl, rfl, by simp [List.lookup, ev, List.length_set], rfl, rfl, rfl, trivial⟩ ⟨⟨by show j + 1 ≤ _; omega, hMk.step hp hp0⟩, hX9, hT, hA⟩ (by show td.ps.length - (j + 1) < td.ps.length - j; omega)
                      | exact WX.loop_next (k + 1, true) ⟨rfl, rfl, rfl, rfl, rfl, rfl, rfl, rfl, rfl, rfl, rfl, rfl, trivial⟩ ⟨⟨by show k + 1 ≤ _; omega, (by
                          have h1 := hbq.1 hb254
                          refine ⟨fun _ => ?_, fun _ => rfl⟩
                          rcases h1 with h1 | h1 | ⟨V, hV, h1⟩
                          ·
                            exact .inl h1
                          ·
                            exact .inr (.inl h1)
                          ·
                            exact .inr (.inr ⟨V, (List.take_subset_take_left _ (Nat.le_succ k)) hV, h1⟩))⟩, hX, hA⟩ (by show y.sn.length - (k + 1) < y.sn.length - k; omega)
                      | exact WX.loop_next (k + 1, decide ((m : Int) ∈ r.xs)) ⟨rfl, rfl, rfl, rfl, rfl, rfl, rfl, rfl, rfl, rfl, rfl, rfl, trivial⟩ ⟨⟨by show k + 1 ≤ _; omega, (by
                          have h1 : ¬ ((m : Int) ∈ y.H.xs ∨ (m : Int) ∈ y.O.xs ∨ ∃ V ∈ (vsI y.sn).take k, (m : Int) ∈ V) := fun h3 => by have := hbq.2 h3; rw [hb254] at this; cases this
                          show decide ((m : Int) ∈ r.xs) = true ↔ (m : Int) ∈ y.H.xs ∨ (m : Int) ∈ y.O.xs ∨ ∃ V ∈ (vsI y.sn).take (k + 1), (m : Int) ∈ V
                          rw [List.take_add_one, vsI_at hr, decide_eq_true_iff]
                          constructor
                          ·
                            intro h2
                            exact .inr (.inr ⟨r.xs, by simp, h2⟩)
                          ·
                            rintro (h2 | h2 | ⟨V, hV, h2⟩)
                            ·
                              exact absurd (.inl h2) h1
                            ·
                              exact absurd (.inr (.inl h2)) h1
                            ·
                              rcases List.mem_append.1 hV with h3 | h3
                              ·
                                exact absurd (.inr (.inr ⟨V, h3, h2⟩)) h1
                              ·
                                rw [show V = r.xs by simpa using h3] at h2
                                exact h2)⟩, hX, hA⟩ (by show y.sn.length - (k + 1) < y.sn.length - k; omega)
                      | exact WX.loop_next (m + 1) ⟨rfl, rfl, rfl, rfl, rfl, rfl, rfl, rfl, rfl, rfl, trivial⟩ ⟨by omega, hX, hA⟩ (by omega)
                      | exact WX.loop_next (i + 1, t + 1, n2, y) ⟨rfl, rfl, rfl, rfl, rfl, rfl, rfl, rfl, rfl, trivial⟩ ⟨⟨by show i + 1 ≤ _; omega, by show i + 1 ≤ _; omega⟩, hM2, hX, hA⟩ (by show 80 - (i + 1) < 80 - i; omega)
                      | exact WX.loop_next (i + 1, t + 1, n, x) ⟨rfl, rfl, rfl, rfl, rfl, rfl, rfl, rfl, rfl, trivial⟩ ⟨⟨by show i + 1 ≤ _; omega, by show i + 1 ≤ _; omega⟩, hM.skip, hX, hA⟩ (by show 80 - (i + 1) < 80 - i; omega)
                  ·
                    refine WL.nil (WX.then_normal (WC.cond_false rfl (WC.skip (WX.then_normal (WC.seq (WC.region (WL.move rfl rfl (?_))))))))
                    refine WL.move rfl rfl (?_)
                    have hw0 : ∃ kk, kk = (B64 o.2 % B64 (x.sn.length : Int)).toNat := ⟨_, rfl⟩
                    obtain ⟨kk, hkk⟩ := hw0
                    have hBl : (B64 (x.sn.length : Int)).toNat = x.sn.length := B64_nat (by omega)
                    have hkl : kk < x.sn.length := by rw [hkk, UInt64.toNat_mod, hBl]; exact Nat.mod_lt _ (by omega)
                    refine WL.indexT (e := eop2) Try.underlying53 Try.sizeOf59 hA rfl rfl ⟨ho, rfl⟩ rfl ?_
                    intro bb2 oo2 hcc2
                    refine WL.fieldAddr (fld_59_1) rfl rfl (WL.load Try.isAgg3 rfl (hcc2 _ _ rfl) rfl (WL.c_i64_u64 Try.underlying3 Try.underlying54 rfl rfl (WL.move rfl rfl (WL.len Try.underlying56 rfl rfl (WL.c_i64_u64 Try.underlying3 Try.underlying54 rfl rfl (?_))))))
                    refine WL.num rfl rfl (n_rem64 _ _ _ _ (by rw [hBl]; omega)) rfl ?_
                    refine WL.c_u64_i64s (n := kk) Try.underlying54 Try.underlying3 rfl ⟨hkk.symm, by omega⟩ rfl ?_
                    refine WL.assign rfl rfl (WL.nil (WX.then_normal (WC.seq (WC.region (?_)))))
                    have hnl := hX.le
                    have hg8n := hX.g8n.2
                    refine WL.loadsB Try.isAgg33 Try.sizeOf33 hX.line rfl rfl rfl ?_
                    refine WL.move rfl rfl (?_)
                    have hsl : x.l.snaps.length = x.sn.length := by have h1 := hM.hi.len; rw [hVl] at h1; rw [← h1]; exact (sabs_len _).symm
                    obtain ⟨hsm, hzz⟩ := all_sm (n := 90) (show (allP x.l.abs).length ≤ 90 by omega) (by omega) (by omega)
                    refine WL.call eg_19 rfl rfl (DestroyO_calls hX.lw.ls (hsm.up (by decide)) (kk : Int) (by constructor <;> omega) hzz) ?_
                    rintro v w3 ⟨⟨l', fao, fc, fr, e', rfl, hDR, hOk, hT⟩, k3⟩
                    obtain ⟨rfl, hfl, hP⟩ := hM.destroy (by rw [hVl]; exact hkl) hDR
                    have hzk3 := k3.size
                    have zs_k3 := k3.size
                    replace hX := hX.pure k3
                    replace hA := hA.pure k3
                    replace hX := hX.now
                    have hLk := hOk.lt
                    replace hT := hT.lt
                    obtain ⟨n3, hn3⟩ := szNow hX.hw
                    rw [← hn3] at hX
                    have hLn : LW (· < n3) _ l' := hLk.mono (fun b hb => by have := hb.2; omega)
                    have hg83 : g8 < w3.heap.size := by rw [← hn3]; exact hX.g8n.2
                    replace hT := hT.mono (S' := fun b => n ≤ b ∧ b < n3 ∧ b ≠ g8) (fun b hb => by have := hb.1; have := hb.2; omega)
                    refine WL.move rfl rfl (WL.extract rfl rfl rfl (WL.extract rfl rfl rfl (WL.extract rfl rfl rfl (?_))))
                    refine WL.stores Try.sizeOf33 hX.line rfl rfl rfl (by simp [Value.oneCell']) (by simp) rfl ?_
                    intro w8 z8 hn8 k8
                    have hX8 := hX.setLine (l' := l') k8 hn8 hLn
                    replace hA := hA.chg k8 (fun b _ h2 h3 => by have h4 : b = g8 := h3; have := hX.g8n.1; omega)
                    first
                      | (replace hb19' := hb19'.chg k8 hg89
                         skip)
                      | (replace hT := hT.chg k8 (fun b _ h2 h3 => by have h4 : b = g8 := h3; omega)
                         skip)
                      | skip
                    refine WL.assign rfl rfl (WL.assign rfl rfl (WL.nil (WX.then_normal (?_))))
                    have hnl8 := hX8.le
                    obtain ⟨n0, hn0⟩ := szNow hX8.hw
                    have e8 : (x.sn.take kk).drop 0 = x.sn.take kk := List.drop_zero
                    have e13 : (x.sn.take x.sn.length).drop (kk + 1) = x.sn.drop (kk + 1) := by rw [List.take_length]
                    have hn30 : n3 ≤ n0 := by omega
                    have hsr : RSl (fun b => b < n0) _ erowI x.sao x.sc x.sn := hX8.snaps.rsl.mono (S' := fun b => b < n0) (fun b hb => by have := hb.2; omega)
                    have h8 := hsr.cut 0 kk ⟨Nat.zero_le _, by show kk ≤ x.sn.length; omega⟩
                    have h13 := hsr.cut (kk + 1) x.sn.length ⟨by omega, Nat.le_refl _⟩
                    rw [e8] at h8
                    rw [e13] at h13
                    have hl1 : (x.sn.take kk).length ≤ 1000 := by simp; omega
                    have hl3 : (x.sn.drop (kk + 1)).length ≤ 1000 := by simp; omega
                    refine WC.draw ((fun x => n0 ≤ x)) [1, 2, 3, 5, 6, 7, 8] [0, 4, 9, 10] mixed rfl rfl (fun wd_2 kd_2 zd_2 => ?_)
                    have zs_kd_2 := kd_2.size
                    replace hA := hA.pure kd_2
                    replace hT := hT.pure kd_2
                    replace hX8 := hX8.pure kd_2
                    replace hsr := hsr.pure kd_2
                    replace h8 := h8.pure kd_2
                    replace h13 := h13.pure kd_2
                    apply DQ.step (E' := [(10, _)])
                    case ho => rfl
                    case hs => exact ⟨rfl, trivial⟩
                    case hk => rfl
                    case h1 =>
                      intro wq_4 kq_4
                      refine WL.move rfl rfl (?_)
                      refine WL.nil ?_
                      exact WX.one ⟨rfl, by first | exact Chg.refl _ _ | assumption⟩
                    apply DQ.step (E' := [(21, _)])
                    case ho => rfl
                    case hs => exact ⟨rfl, trivial⟩
                    case hk => rfl
                    case h1 =>
                      intro wq_5 kq_5
                      refine WL.move rfl rfl (?_)
                      refine WL.nil ?_
                      exact WX.one ⟨rfl, by first | exact Chg.refl _ _ | assumption⟩
                    apply DQ.step (E' := [(181, _), (182, _)])
                    case ho => rfl
                    case hs => exact ⟨rfl, rfl, trivial⟩
                    case hk => rfl
                    case h1 =>
                      intro wq_6 kq_6
                      have zs_kq_6 := kq_6.size
                      replace hA := hA.chg kq_6 (by first | (intro x h1 h2; exact h2) | (intro x h1 h2; have h3 : _ = _ := h2; exfalso; omega) | (intro b h1 h2 h3; have h4 : _ = _ := h3; (try dsimp only at h2); exfalso; omega) | (intro h1; have h2 : _ = _ := h1; exfalso; omega) | (intros; exfalso; (try dsimp only at *); omega) | (intro b h1 h2 h3; exfalso; have h4 := h3.2; (try dsimp only at *); omega) | (intro h1; exfalso; have h4 := h1.2; (try dsimp only at *); omega))
                      replace hT := hT.chg kq_6 (by first | (intro x h1 h2; exact h2) | (intro x h1 h2; have h3 : _ = _ := h2; exfalso; omega) | (intro b h1 h2 h3; have h4 : _ = _ := h3; (try dsimp only at h2); exfalso; omega) | (intro h1; have h2 : _ = _ := h1; exfalso; omega) | (intros; exfalso; (try dsimp only at *); omega) | (intro b h1 h2 h3; exfalso; have h4 := h3.2; (try dsimp only at *); omega) | (intro h1; exfalso; have h4 := h1.2; (try dsimp only at *); omega))
                      replace hX8 := hX8.chg kq_6 (by first | (intro x h1 h2; exact h2) | (intro x h1 h2; have h3 : _ = _ := h2; exfalso; omega) | (intro b h1 h2 h3; have h4 : _ = _ := h3; (try dsimp only at h2); exfalso; omega) | (intro h1; have h2 : _ = _ := h1; exfalso; omega) | (intros; exfalso; (try dsimp only at *); omega) | (intro b h1 h2 h3; exfalso; have h4 := h3.2; (try dsimp only at *); omega) | (intro h1; exfalso; have h4 := h1.2; (try dsimp only at *); omega))
                      replace hsr := hsr.chg kq_6 (by first | (intro x h1 h2; exact h2) | (intro x h1 h2; have h3 : _ = _ := h2; exfalso; omega) | (intro b h1 h2 h3; have h4 : _ = _ := h3; (try dsimp only at h2); exfalso; omega) | (intro h1; have h2 : _ = _ := h1; exfalso; omega) | (intros; exfalso; (try dsimp only at *); omega) | (intro b h1 h2 h3; exfalso; have h4 := h3.2; (try dsimp only at *); omega) | (intro h1; exfalso; have h4 := h1.2; (try dsimp only at *); omega))
                      replace h8 := h8.chg kq_6 (by first | (intro x h1 h2; exact h2) | (intro x h1 h2; have h3 : _ = _ := h2; exfalso; omega) | (intro b h1 h2 h3; have h4 : _ = _ := h3; (try dsimp only at h2); exfalso; omega) | (intro h1; have h2 : _ = _ := h1; exfalso; omega) | (intros; exfalso; (try dsimp only at *); omega) | (intro b h1 h2 h3; exfalso; have h4 := h3.2; (try dsimp only at *); omega) | (intro h1; exfalso; have h4 := h1.2; (try dsimp only at *); omega))
                      replace h13 := h13.chg kq_6 (by first | (intro x h1 h2; exact h2) | (intro x h1 h2; have h3 : _ = _ := h2; exfalso; omega) | (intro b h1 h2 h3; have h4 : _ = _ := h3; (try dsimp only at h2); exfalso; omega) | (intro h1; have h2 : _ = _ := h1; exfalso; omega) | (intros; exfalso; (try dsimp only at *); omega) | (intro b h1 h2 h3; exfalso; have h4 := h3.2; (try dsimp only at *); omega) | (intro h1; exfalso; have h4 := h1.2; (try dsimp only at *); omega))
                      refine WL.sliceC (l := 0) (h := kk) (k := .i64) Try.underlying56 Try.sizeOf55 hsr rfl (.inr ⟨rfl, rfl⟩) (.inl rfl) (by constructor <;> omega) rfl ?_
                      rw [e8]
                      refine WL.nil ?_
                      exact WX.one ⟨rfl, by first | exact Chg.refl _ _ | assumption⟩
                    apply DQ.step (E' := [(10, _)])
                    case ho => rfl
                    case hs => exact ⟨rfl, trivial⟩
                    case hk => rfl
                    case h1 =>
                      intro wq_7 kq_7
                      refine WL.move rfl rfl (?_)
                      refine WL.nil ?_
                      exact WX.one ⟨rfl, by first | exact Chg.refl _ _ | assumption⟩
                    apply DQ.step (E' := [(21, _)])
                    case ho => rfl
                    case hs => exact ⟨rfl, trivial⟩
                    case hk => rfl
                    case h1 =>
                      intro wq_8 kq_8
                      refine WL.move rfl rfl (?_)
                      refine WL.nil ?_
                      exact WX.one ⟨rfl, by first | exact Chg.refl _ _ | assumption⟩
                    apply DQ.step (E' := [(186, _)])
                    case ho => rfl
                    case hs => exact ⟨rfl, trivial⟩
                    case hk => rfl
                    case h1 =>
                      intro wq_9 kq_9
                      refine WL.add64 rfl rfl (by first | omega | (constructor <;> omega)) rfl (?_)
                      refine WL.nil ?_
                      exact WX.one ⟨rfl, by first | exact Chg.refl _ _ | assumption⟩
                    apply DQ.step (E' := [(185, _), (187, _)])
                    case ho => rfl
                    case hs => exact ⟨rfl, rfl, trivial⟩
                    case hk => rfl
                    case h1 =>
                      intro wq_10 kq_10
                      have zs_kq_10 := kq_10.size
                      replace hA := hA.chg kq_10 (by first | (intro x h1 h2; exact h2) | (intro x h1 h2; have h3 : _ = _ := h2; exfalso; omega) | (intro b h1 h2 h3; have h4 : _ = _ := h3; (try dsimp only at h2); exfalso; omega) | (intro h1; have h2 : _ = _ := h1; exfalso; omega) | (intros; exfalso; (try dsimp only at *); omega) | (intro b h1 h2 h3; exfalso; have h4 := h3.2; (try dsimp only at *); omega) | (intro h1; exfalso; have h4 := h1.2; (try dsimp only at *); omega))
                      replace hT := hT.chg kq_10 (by first | (intro x h1 h2; exact h2) | (intro x h1 h2; have h3 : _ = _ := h2; exfalso; omega) | (intro b h1 h2 h3; have h4 : _ = _ := h3; (try dsimp only at h2); exfalso; omega) | (intro h1; have h2 : _ = _ := h1; exfalso; omega) | (intros; exfalso; (try dsimp only at *); omega) | (intro b h1 h2 h3; exfalso; have h4 := h3.2; (try dsimp only at *); omega) | (intro h1; exfalso; have h4 := h1.2; (try dsimp only at *); omega))
                      replace hX8 := hX8.chg kq_10 (by first | (intro x h1 h2; exact h2) | (intro x h1 h2; have h3 : _ = _ := h2; exfalso; omega) | (intro b h1 h2 h3; have h4 : _ = _ := h3; (try dsimp only at h2); exfalso; omega) | (intro h1; have h2 : _ = _ := h1; exfalso; omega) | (intros; exfalso; (try dsimp only at *); omega) | (intro b h1 h2 h3; exfalso; have h4 := h3.2; (try dsimp only at *); omega) | (intro h1; exfalso; have h4 := h1.2; (try dsimp only at *); omega))
                      replace hsr := hsr.chg kq_10 (by first | (intro x h1 h2; exact h2) | (intro x h1 h2; have h3 : _ = _ := h2; exfalso; omega) | (intro b h1 h2 h3; have h4 : _ = _ := h3; (try dsimp only at h2); exfalso; omega) | (intro h1; have h2 : _ = _ := h1; exfalso; omega) | (intros; exfalso; (try dsimp only at *); omega) | (intro b h1 h2 h3; exfalso; have h4 := h3.2; (try dsimp only at *); omega) | (intro h1; exfalso; have h4 := h1.2; (try dsimp only at *); omega))
                      replace h8 := h8.chg kq_10 (by first | (intro x h1 h2; exact h2) | (intro x h1 h2; have h3 : _ = _ := h2; exfalso; omega) | (intro b h1 h2 h3; have h4 : _ = _ := h3; (try dsimp only at h2); exfalso; omega) | (intro h1; have h2 : _ = _ := h1; exfalso; omega) | (intros; exfalso; (try dsimp only at *); omega) | (intro b h1 h2 h3; exfalso; have h4 := h3.2; (try dsimp only at *); omega) | (intro h1; exfalso; have h4 := h1.2; (try dsimp only at *); omega))
                      replace h13 := h13.chg kq_10 (by first | (intro x h1 h2; exact h2) | (intro x h1 h2; have h3 : _ = _ := h2; exfalso; omega) | (intro b h1 h2 h3; have h4 : _ = _ := h3; (try dsimp only at h2); exfalso; omega) | (intro h1; have h2 : _ = _ := h1; exfalso; omega) | (intros; exfalso; (try dsimp only at *); omega) | (intro b h1 h2 h3; exfalso; have h4 := h3.2; (try dsimp only at *); omega) | (intro h1; exfalso; have h4 := h1.2; (try dsimp only at *); omega))
                      refine WL.sliceC (l := kk + 1) (h := x.sn.length) (j := .i64) Try.underlying56 Try.sizeOf55 hsr rfl (.inl rfl) (.inr ⟨rfl, rfl⟩) (by constructor <;> omega) rfl ?_
                      rw [e13]
                      refine WL.nil ?_
                      exact WX.one ⟨rfl, by first | exact Chg.refl _ _ | assumption⟩
                    refine DQ.done (fun hd_3 => ?_)
                    refine DL.step [] rfl trivial rfl (fun wq_11 kq_11 => ?_)
                    have zs_kq_11 := kq_11.size
                    replace hA := hA.pure kq_11
                    replace hT := hT.pure kq_11
                    replace hX8 := hX8.pure kq_11
                    replace hsr := hsr.pure kq_11
                    replace h8 := h8.pure kq_11
                    replace h13 := h13.pure kq_11
                    replace hd_3 := hd_3.pure kq_11
                    refine WL.build (e := erowI) [] Try.underlying56 Try.sizeOf55 Try.zeroValue55 rfl rfl rfl (by first | (simp [Value.cells]; done) | (simp [Value.cells] <;> rfl) | (simp [Value.cells, eb, ei, es, ebool, e32, e64]; done)) (by decide) rfl ?_
                    intro a_hq w_hq hq l_hq z_hq k_hq
                    have zs_k_hq := k_hq.size
                    replace hA := hA.pure k_hq
                    replace hT := hT.pure k_hq
                    replace hX8 := hX8.pure k_hq
                    replace hsr := hsr.pure k_hq
                    replace h8 := h8.pure k_hq
                    replace h13 := h13.pure k_hq
                    replace hd_3 := hd_3.pure k_hq
                    refine WL.nil ?_
                    refine WX.one ⟨hd_3, ?_⟩
                    refine DL.step [(180, _), (183, _)] rfl ⟨rfl, rfl, trivial⟩ rfl (fun wq_12 kq_12 => ?_)
                    have zs_kq_12 := kq_12.size
                    replace hA := hA.pure kq_12
                    replace hT := hT.pure kq_12
                    replace hX8 := hX8.pure kq_12
                    replace hsr := hsr.pure kq_12
                    replace h8 := h8.pure kq_12
                    replace h13 := h13.pure kq_12
                    replace hd_3 := hd_3.pure kq_12
                    replace hq := hq.pure kq_12
                    refine WL.append (e := erowI) (xs := []) (S := fun b => n0 ≤ b) info_55 rfl Try.underlying56 rfl rfl (hq.mono (fun b hb => by omega)) (h8.src Try.underlying56) (by show (0 + (x.sn.take kk).length) * 24 ≤ _ ∧ 0 + (x.sn.take kk).length ≤ _; constructor <;> omega) (fun b hb => by omega) rfl ?_
                    intro a9 c9 w9 hQ g9 n9
                    have k9 := g9.chg.mono (fun x _ hx => hx.2)
                    have zs_k9 := k9.size
                    replace hA := hA.chg k9 (by first | (intro x h1 h2; exact h2) | (intro x h1 h2; have h3 : _ = _ := h2; exfalso; omega) | (intro b h1 h2 h3; have h4 : _ = _ := h3; (try dsimp only at h2); exfalso; omega) | (intro h1; have h2 : _ = _ := h1; exfalso; omega) | (intros; exfalso; (try dsimp only at *); omega) | (intro b h1 h2 h3; exfalso; have h4 := h3.2; (try dsimp only at *); omega) | (intro h1; exfalso; have h4 := h1.2; (try dsimp only at *); omega))
                    replace hT := hT.chg k9 (by first | (intro x h1 h2; exact h2) | (intro x h1 h2; have h3 : _ = _ := h2; exfalso; omega) | (intro b h1 h2 h3; have h4 : _ = _ := h3; (try dsimp only at h2); exfalso; omega) | (intro h1; have h2 : _ = _ := h1; exfalso; omega) | (intros; exfalso; (try dsimp only at *); omega) | (intro b h1 h2 h3; exfalso; have h4 := h3.2; (try dsimp only at *); omega) | (intro h1; exfalso; have h4 := h1.2; (try dsimp only at *); omega))
                    replace hX8 := hX8.chg k9 (by first | (intro x h1 h2; exact h2) | (intro x h1 h2; have h3 : _ = _ := h2; exfalso; omega) | (intro b h1 h2 h3; have h4 : _ = _ := h3; (try dsimp only at h2); exfalso; omega) | (intro h1; have h2 : _ = _ := h1; exfalso; omega) | (intros; exfalso; (try dsimp only at *); omega) | (intro b h1 h2 h3; exfalso; have h4 := h3.2; (try dsimp only at *); omega) | (intro h1; exfalso; have h4 := h1.2; (try dsimp only at *); omega))
                    replace hsr := hsr.chg k9 (by first | (intro x h1 h2; exact h2) | (intro x h1 h2; have h3 : _ = _ := h2; exfalso; omega) | (intro b h1 h2 h3; have h4 : _ = _ := h3; (try dsimp only at h2); exfalso; omega) | (intro h1; have h2 : _ = _ := h1; exfalso; omega) | (intros; exfalso; (try dsimp only at *); omega) | (intro b h1 h2 h3; exfalso; have h4 := h3.2; (try dsimp only at *); omega) | (intro h1; exfalso; have h4 := h1.2; (try dsimp only at *); omega))
                    replace h8 := h8.chg k9 (by first | (intro x h1 h2; exact h2) | (intro x h1 h2; have h3 : _ = _ := h2; exfalso; omega) | (intro b h1 h2 h3; have h4 : _ = _ := h3; (try dsimp only at h2); exfalso; omega) | (intro h1; have h2 : _ = _ := h1; exfalso; omega) | (intros; exfalso; (try dsimp only at *); omega) | (intro b h1 h2 h3; exfalso; have h4 := h3.2; (try dsimp only at *); omega) | (intro h1; exfalso; have h4 := h1.2; (try dsimp only at *); omega))
                    replace h13 := h13.chg k9 (by first | (intro x h1 h2; exact h2) | (intro x h1 h2; have h3 : _ = _ := h2; exfalso; omega) | (intro b h1 h2 h3; have h4 : _ = _ := h3; (try dsimp only at h2); exfalso; omega) | (intro h1; have h2 : _ = _ := h1; exfalso; omega) | (intros; exfalso; (try dsimp only at *); omega) | (intro b h1 h2 h3; exfalso; have h4 := h3.2; (try dsimp only at *); omega) | (intro h1; exfalso; have h4 := h1.2; (try dsimp only at *); omega))
                    replace hd_3 := hd_3.chg k9 (by first | (intro x h1 h2; exact h2) | (intro x h1 h2; have h3 : _ = _ := h2; exfalso; omega) | (intro b h1 h2 h3; have h4 : _ = _ := h3; (try dsimp only at h2); exfalso; omega) | (intro h1; have h2 : _ = _ := h1; exfalso; omega) | (intros; exfalso; (try dsimp only at *); omega) | (intro b h1 h2 h3; exfalso; have h4 := h3.2; (try dsimp only at *); omega) | (intro h1; exfalso; have h4 := h1.2; (try dsimp only at *); omega))
                    refine WL.nil ?_
                    refine WX.one ⟨hd_3, ?_⟩
                    refine DL.step [(184, _), (188, _)] rfl ⟨rfl, rfl, trivial⟩ rfl (fun wq_13 kq_13 => ?_)
                    have zs_kq_13 := kq_13.size
                    replace hA := hA.pure kq_13
                    replace hT := hT.pure kq_13
                    replace hX8 := hX8.pure kq_13
                    replace hsr := hsr.pure kq_13
                    replace h8 := h8.pure kq_13
                    replace h13 := h13.pure kq_13
                    replace hd_3 := hd_3.pure kq_13
                    replace hQ := hQ.pure kq_13
                    refine WL.append (e := erowI) (xs := x.sn.take kk) (S := fun b => n0 ≤ b) info_55 rfl Try.underlying56 rfl rfl hQ (h13.src Try.underlying56) (by show ((x.sn.take kk).length + (x.sn.drop (kk + 1)).length) * 24 ≤ _ ∧ (x.sn.take kk).length + (x.sn.drop (kk + 1)).length ≤ _; constructor <;> omega) (fun b hb => by omega) rfl ?_
                    intro a14 c14 w14 hR g14 n14
                    have k14 := g14.chg.mono (fun x _ hx => hx.2)
                    have zs_k14 := k14.size
                    replace hA := hA.chg k14 (by first | (intro x h1 h2; exact h2) | (intro x h1 h2; have h3 : _ = _ := h2; exfalso; omega) | (intro b h1 h2 h3; have h4 : _ = _ := h3; (try dsimp only at h2); exfalso; omega) | (intro h1; have h2 : _ = _ := h1; exfalso; omega) | (intros; exfalso; (try dsimp only at *); omega) | (intro b h1 h2 h3; exfalso; have h4 := h3.2; (try dsimp only at *); omega) | (intro h1; exfalso; have h4 := h1.2; (try dsimp only at *); omega))
                    replace hT := hT.chg k14 (by first | (intro x h1 h2; exact h2) | (intro x h1 h2; have h3 : _ = _ := h2; exfalso; omega) | (intro b h1 h2 h3; have h4 : _ = _ := h3; (try dsimp only at h2); exfalso; omega) | (intro h1; have h2 : _ = _ := h1; exfalso; omega) | (intros; exfalso; (try dsimp only at *); omega) | (intro b h1 h2 h3; exfalso; have h4 := h3.2; (try dsimp only at *); omega) | (intro h1; exfalso; have h4 := h1.2; (try dsimp only at *); omega))
                    replace hX8 := hX8.chg k14 (by first | (intro x h1 h2; exact h2) | (intro x h1 h2; have h3 : _ = _ := h2; exfalso; omega) | (intro b h1 h2 h3; have h4 : _ = _ := h3; (try dsimp only at h2); exfalso; omega) | (intro h1; have h2 : _ = _ := h1; exfalso; omega) | (intros; exfalso; (try dsimp only at *); omega) | (intro b h1 h2 h3; exfalso; have h4 := h3.2; (try dsimp only at *); omega) | (intro h1; exfalso; have h4 := h1.2; (try dsimp only at *); omega))
                    replace hsr := hsr.chg k14 (by first | (intro x h1 h2; exact h2) | (intro x h1 h2; have h3 : _ = _ := h2; exfalso; omega) | (intro b h1 h2 h3; have h4 : _ = _ := h3; (try dsimp only at h2); exfalso; omega) | (intro h1; have h2 : _ = _ := h1; exfalso; omega) | (intros; exfalso; (try dsimp only at *); omega) | (intro b h1 h2 h3; exfalso; have h4 := h3.2; (try dsimp only at *); omega) | (intro h1; exfalso; have h4 := h1.2; (try dsimp only at *); omega))
                    replace h8 := h8.chg k14 (by first | (intro x h1 h2; exact h2) | (intro x h1 h2; have h3 : _ = _ := h2; exfalso; omega) | (intro b h1 h2 h3; have h4 : _ = _ := h3; (try dsimp only at h2); exfalso; omega) | (intro h1; have h2 : _ = _ := h1; exfalso; omega) | (intros; exfalso; (try dsimp only at *); omega) | (intro b h1 h2 h3; exfalso; have h4 := h3.2; (try dsimp only at *); omega) | (intro h1; exfalso; have h4 := h1.2; (try dsimp only at *); omega))
                    replace h13 := h13.chg k14 (by first | (intro x h1 h2; exact h2) | (intro x h1 h2; have h3 : _ = _ := h2; exfalso; omega) | (intro b h1 h2 h3; have h4 : _ = _ := h3; (try dsimp only at h2); exfalso; omega) | (intro h1; have h2 : _ = _ := h1; exfalso; omega) | (intros; exfalso; (try dsimp only at *); omega) | (intro b h1 h2 h3; exfalso; have h4 := h3.2; (try dsimp only at *); omega) | (intro h1; exfalso; have h4 := h1.2; (try dsimp only at *); omega))
                    replace hd_3 := hd_3.chg k14 (by first | (intro x h1 h2; exact h2) | (intro x h1 h2; have h3 : _ = _ := h2; exfalso; omega) | (intro b h1 h2 h3; have h4 : _ = _ := h3; (try dsimp only at h2); exfalso; omega) | (intro h1; have h2 : _ = _ := h1; exfalso; omega) | (intros; exfalso; (try dsimp only at *); omega) | (intro b h1 h2 h3; exfalso; have h4 := h3.2; (try dsimp only at *); omega) | (intro h1; exfalso; have h4 := h1.2; (try dsimp only at *); omega))
                    refine WL.nil ?_
                    refine WX.one ⟨hd_3, ?_⟩
                    refine DL.step [(189, _)] rfl ⟨rfl, trivial⟩ rfl (fun wq_14 kq_14 => ?_)
                    have zs_kq_14 := kq_14.size
                    replace hA := hA.pure kq_14
                    replace hT := hT.pure kq_14
                    replace hX8 := hX8.pure kq_14
                    replace hsr := hsr.pure kq_14
                    replace h8 := h8.pure kq_14
                    replace h13 := h13.pure kq_14
                    replace hd_3 := hd_3.pure kq_14
                    replace hR := hR.pure kq_14
                    refine WL.assign rfl rfl (?_)
                    refine WL.nil ?_
                    refine WX.one ⟨hd_3, ?_⟩
                    refine DL.done (fun we_15 ke_15 => ?_)
                    have zs_ke_15 := ke_15.size
                    replace hA := hA.pure ke_15
                    replace hT := hT.pure ke_15
                    replace hX8 := hX8.pure ke_15
                    replace hsr := hsr.pure ke_15
                    replace h8 := h8.pure ke_15
                    replace h13 := h13.pure ke_15
                    replace hd_3 := hd_3.pure ke_15
                    replace hR := hR.pure ke_15
                    refine WX.block_normal (?_)
                    first
                      | exact WX.cutN (i, x) ⟨rfl, rfl, rfl, rfl, rfl, rfl, rfl, rfl, trivial⟩ ⟨(by
                          have h1 := MX.start (bs := (bs : Int)) (n := i) (bi := x.B.xs) hi4 ⟨by omega, by omega⟩ hBl hBb
                          rw [← hOx, ← hfl] at h1
                          rw [hHx, ← hOx]
                          exact h1), hE.ex, hA⟩
                      | exact WX.cutN (_, ⟨x.l, ⟨aH, cH, x.H.xs ++ [(x.B.xs.length : Int)]⟩, x.O, ⟨aB, cB, x.B.xs ++ [t + 1]⟩, x.sao, x.sc, x.sn, aF, cF, x.fl ++ [false]⟩, ⟨none, 0, []⟩) ⟨rfl, rfl, rfl, rfl, rfl, rfl, rfl, rfl, rfl, rfl, rfl, trivial⟩ ⟨hM.born, by show 0 ≤ 1000; decide, hX3, Row.nil _ _ _ _, hA⟩
                      | exact WX.cutN (_, ⟨l', ⟨aW, cW, x.H.xs.take kk ++ x.H.xs.drop (kk + 1)⟩, x.O, x.B, x.sao, x.sc, x.sn, x.fao, x.fc, x.fl⟩, ⟨aT, cT, [⟨y, 0, birth x.B.xs y, ByteArray.empty⟩]⟩) ⟨rfl, rfl, rfl, rfl, rfl, rfl, rfl, rfl, rfl, rfl, rfl, trivial⟩ ⟨(by rw [if_pos hc135] at hP; exact hP), by show 1 ≤ 1000; decide, hX9, hT.mono (fun _ _ => trivial), hA⟩
                      | exact WX.cutN (_, ⟨l', ⟨aW, cW, x.H.xs.take kk ++ x.H.xs.drop (kk + 1)⟩, x.O, x.B, x.sao, x.sc, x.sn, x.fao, x.fc, x.fl⟩, ⟨none, 0, []⟩) ⟨rfl, rfl, rfl, rfl, rfl, rfl, rfl, rfl, rfl, rfl, rfl, trivial⟩ ⟨(by rw [if_neg (by simp [hc135])] at hP; exact hP), by show 0 ≤ 1000; decide, hX9, Row.nil _ _ _ _, hA⟩
                      | exact WX.cutN (_, ⟨l', x.H, x.O, x.B, aS, cS, x.sn ++ [⟨aQ, cQ, x.H.xs⟩], x.fao, x.fc, x.fl⟩, ⟨none, 0, []⟩) ⟨rfl, rfl, rfl, rfl, rfl, rfl, rfl, rfl, rfl, rfl, rfl, trivial⟩ ⟨(by show PX _ _ _ _ (vsI (x.sn ++ [⟨aQ, cQ, x.H.xs⟩])) _ _ _ _; rw [vsI_app]; exact hP), by show 0 ≤ 1000; decide, hX9, Row.nil _ _ _ _, hA⟩
                      | exact WX.cutN (_, ⟨l', x.H, x.O, x.B, a14, c14, x.sn.take kk ++ x.sn.drop (kk + 1), x.fao, x.fc, x.fl⟩, ⟨fao, fc, fr⟩) ⟨rfl, rfl, rfl, rfl, rfl, rfl, rfl, rfl, rfl, rfl, rfl, trivial⟩ ⟨(by show PX _ _ _ _ (vsI (x.sn.take kk ++ x.sn.drop (kk + 1))) _ _ _ _; rw [vsI_cut]; exact hP), by show fr.length ≤ 1000; omega,
                          hX8.setS hR (Chg.refl Nob _) (fun b _ h => h.elim) (.inr (hR.at_.mono (fun b hb => by omega))) (fun r hr => .inl (by
                            rcases List.mem_append.1 hr with h1 | h1
                            ·
                              exact List.mem_of_mem_take h1
                            ·
                              exact List.mem_of_mem_drop h1)), hT.mono (fun _ _ => trivial), hA⟩
                      | exact WX.cutN (_, x, ⟨none, 0, []⟩) ⟨rfl, rfl, rfl, rfl, rfl, rfl, rfl, rfl, rfl, rfl, rfl, trivial⟩ ⟨hM.idle, by show 0 ≤ 1000; decide, hX, Row.nil _ _ _ _, hA⟩
                ·
                  refine WL.assign rfl rfl (WL.nil (WX.then_normal (WC.cond_false rfl (WC.skip (WX.block_normal (?_))))))
                  first
                    | exact WX.cutN (i, x) ⟨rfl, rfl, rfl, rfl, rfl, rfl, rfl, rfl, trivial⟩ ⟨(by
                        have h1 := MX.start (bs := (bs : Int)) (n := i) (bi := x.B.xs) hi4 ⟨by omega, by omega⟩ hBl hBb
                        rw [← hOx, ← hfl] at h1
                        rw [hHx, ← hOx]
                        exact h1), hE.ex, hA⟩
                    | exact WX.cutN (_, ⟨x.l, ⟨aH, cH, x.H.xs ++ [(x.B.xs.length : Int)]⟩, x.O, ⟨aB, cB, x.B.xs ++ [t + 1]⟩, x.sao, x.sc, x.sn, aF, cF, x.fl ++ [false]⟩, ⟨none, 0, []⟩) ⟨rfl, rfl, rfl, rfl, rfl, rfl, rfl, rfl, rfl, rfl, rfl, trivial⟩ ⟨hM.born, by show 0 ≤ 1000; decide, hX3, Row.nil _ _ _ _, hA⟩
                    | exact WX.cutN (_, ⟨l', ⟨aW, cW, x.H.xs.take kk ++ x.H.xs.drop (kk + 1)⟩, x.O, x.B, x.sao, x.sc, x.sn, x.fao, x.fc, x.fl⟩, ⟨aT, cT, [⟨y, 0, birth x.B.xs y, ByteArray.empty⟩]⟩) ⟨rfl, rfl, rfl, rfl, rfl, rfl, rfl, rfl, rfl, rfl, rfl, trivial⟩ ⟨(by rw [if_pos hc135] at hP; exact hP), by show 1 ≤ 1000; decide, hX9, hT.mono (fun _ _ => trivial), hA⟩
                    | exact WX.cutN (_, ⟨l', ⟨aW, cW, x.H.xs.take kk ++ x.H.xs.drop (kk + 1)⟩, x.O, x.B, x.sao, x.sc, x.sn, x.fao, x.fc, x.fl⟩, ⟨none, 0, []⟩) ⟨rfl, rfl, rfl, rfl, rfl, rfl, rfl, rfl, rfl, rfl, rfl, trivial⟩ ⟨(by rw [if_neg (by simp [hc135])] at hP; exact hP), by show 0 ≤ 1000; decide, hX9, Row.nil _ _ _ _, hA⟩
                    | exact WX.cutN (_, ⟨l', x.H, x.O, x.B, aS, cS, x.sn ++ [⟨aQ, cQ, x.H.xs⟩], x.fao, x.fc, x.fl⟩, ⟨none, 0, []⟩) ⟨rfl, rfl, rfl, rfl, rfl, rfl, rfl, rfl, rfl, rfl, rfl, trivial⟩ ⟨(by show PX _ _ _ _ (vsI (x.sn ++ [⟨aQ, cQ, x.H.xs⟩])) _ _ _ _; rw [vsI_app]; exact hP), by show 0 ≤ 1000; decide, hX9, Row.nil _ _ _ _, hA⟩
                    | exact WX.cutN (_, ⟨l', x.H, x.O, x.B, a14, c14, x.sn.take kk ++ x.sn.drop (kk + 1), x.fao, x.fc, x.fl⟩, ⟨fao, fc, fr⟩) ⟨rfl, rfl, rfl, rfl, rfl, rfl, rfl, rfl, rfl, rfl, rfl, trivial⟩ ⟨(by show PX _ _ _ _ (vsI (x.sn.take kk ++ x.sn.drop (kk + 1))) _ _ _ _; rw [vsI_cut]; exact hP), by show fr.length ≤ 1000; omega,
                        hX8.setS hR (Chg.refl Nob _) (fun b _ h => h.elim) (.inr (hR.at_.mono (fun b hb => by omega))) (fun r hr => .inl (by
                          rcases List.mem_append.1 hr with h1 | h1
                          ·
                            exact List.mem_of_mem_take h1
                          ·
                            exact List.mem_of_mem_drop h1)), hT.mono (fun _ _ => trivial), hA⟩
                    | exact WX.cutN (_, x, ⟨none, 0, []⟩) ⟨rfl, rfl, rfl, rfl, rfl, rfl, rfl, rfl, rfl, rfl, rfl, trivial⟩ ⟨hM.idle, by show 0 ≤ 1000; decide, hX, Row.nil _ _ _ _, hA⟩
        ·
          clear hX hA hM
          rintro ⟨n, x, td⟩ w1 ⟨hP, htd, hX, hT, hA⟩
          simp only at hP htd hX hT
          dsimp only
          have hz := hP.z
          have hwn : w.heap.size ≤ n := by have h3 := hX.g8n.1; have h4 := hX.g8n.2; omega
          have hVl := vsI_len x.sn
          have hPl := hP.fl
          refine WX.then_normal (WC.seq (WC.seq (WC.region (WL.move rfl rfl (?_)))))
          have hsl : x.l.snaps.length = x.sn.length := by have h1 := hP.hi.len; rw [hVl] at h1; rw [← h1]; exact (sabs_len _).symm
          refine WL.neqF rfl rfl rfl (by first | rfl | omega | decide) ?_
          refine WL.move rfl rfl (WL.want rfl rfl rfl (WL.loadsB Try.isAgg33 Try.sizeOf33 hX.line rfl (by first | (simp; done) | (simp; omega) | rfl) rfl (WL.want rfl rfl rfl (?_))))
          obtain ⟨hsm, hzz⟩ := all_sm (n := 90) (show (allP x.l.abs).length ≤ 90 by omega) (by omega) (by omega)
          refine WL.call eg_9 rfl rfl (Check_calls hX.lw.ls (hsm.up (by decide))) ?_
          rintro v w12 ⟨⟨e6, rfl, he6⟩, k12⟩
          have zs_k12 := k12.size
          replace hX := hX.pure k12
          replace hT := hT.pure k12
          replace hA := hA.pure k12
          obtain rfl : e6 = 0 := by
            rcases he6 with ⟨h1, _⟩ | ⟨_, h1⟩
            ·
              exact h1
            ·
              exact absurd hP.hi.right h1
          refine WL.want rfl rfl rfl (?_)
          refine WL.neqF rfl rfl rfl (by first | rfl | omega | decide) ?_
          refine WL.pickF rfl rfl rfl (WL.move rfl rfl (WL.want rfl rfl rfl (WL.fieldAddr (fld_33_1) rfl rfl (WL.want rfl rfl rfl (WL.loadB Try.isAgg31 hX.line rfl rfl rfl (WL.want rfl rfl rfl (WL.len Try.underlying31 rfl rfl (?_))))))))
          refine WL.want rfl rfl rfl (WL.move rfl rfl (WL.want rfl rfl rfl (WL.len Try.underlying56 rfl rfl (WL.want rfl rfl rfl (?_)))))
          refine WL.neqF rfl rfl rfl (by first | rfl | omega | decide) ?_
          refine WL.pickF rfl rfl rfl (WL.nil (WX.then_normal (WC.cond_false rfl (WC.skip (WX.then_normal (WC.seq (WC.seq (?_))))))))
          refine WC.region (WL.assign rfl rfl (WL.nil (WX.then_normal (WC.block (?_)))))
          refine WC.loop (σ := Nat × Nat × List Bool) (fun q => [(2, .slice a2 l2.length c2), (7, vi (t + 1)), (8, gptr g8), (9, rsv x.H), (10, .slice x.sao x.sn.length x.sc), (11, rsv x.O), (12, rsv x.B), (13, .slice x.fao q.2.2.length x.fc), (15, vi (i : Int)), (16, .slice td.ao td.ps.length td.c), (22, vi (q.1 : Int))])
            (fun q w' => (q.1 ≤ td.ps.length ∧ Mk x.fl td.ps q.1 q.2.2) ∧ EX w q.2.1 g8 { x with fl := q.2.2 } w' ∧ Row (fun _ => True) w' 27 ept td.ao td.c td.ps ∧ RSl (· < w.heap.size) w' eop2 a2 c2 l2) (fun q => td.ps.length - q.1) (0, n, x.fl) ⟨rfl, rfl, rfl, rfl, rfl, rfl, rfl, rfl, rfl, rfl, rfl, trivial⟩ ⟨⟨Nat.zero_le _, Mk.zero _ _⟩, hX, hT, hA⟩ ?_
          clear hX hT hA
          rintro ⟨j, n2, fl2⟩ w2 ⟨⟨hj, hMk⟩, hX, hT, hA⟩
          simp only at hj hMk hX
          dsimp only
          have hf2 := hMk.1
          refine WC.seq (WC.seq (WC.region (WL.move rfl rfl (WL.move rfl rfl (WL.len Try.underlying23 rfl rfl (?_))))))
          refine WL.lss? rfl rfl rfl (fun h208 => ?_) (fun h208 => ?_)
          ·
            refine WL.nil (WX.then_normal (WC.cond_true rfl (WC.skip (WX.then_normal (WC.seq (WC.block (WC.seq (?_))))))))
            refine WC.region (WL.move rfl rfl (WL.move rfl rfl (?_)))
            obtain ⟨p, hp⟩ : ∃ p, td.ps[j]? = some p := ⟨_, List.getElem?_eq_getElem (by omega)⟩
            obtain ⟨hp0, hpl, hpf⟩ := hMk.at hP hp
            refine WL.indexT (e := ept) Try.underlying23 Try.sizeOf27 hT.rsl rfl rfl ⟨hp, rfl⟩ rfl ?_
            intro bb oo hcc
            refine WL.fieldAddr (fld_27_0) rfl rfl (WL.load Try.isAgg3 rfl (hcc _ _ rfl) rfl (WL.assign rfl rfl (WL.nil (WX.then_normal (WC.seq (WC.seq (WC.region (?_))))))))
            refine WL.move rfl rfl (?_)
            refine WL.lssF rfl rfl rfl (by first | rfl | omega | decide) ?_
            refine WL.move rfl rfl (WL.want rfl rfl rfl (WL.move rfl rfl (WL.want rfl rfl rfl (WL.move rfl rfl (WL.want rfl rfl rfl (WL.len Try.underlying57 rfl rfl (WL.want rfl rfl rfl (?_))))))))
            refine WL.geqF rfl rfl rfl (by first | rfl | omega | decide) ?_
            refine WL.pickF rfl rfl rfl (WL.move rfl rfl (WL.want rfl rfl rfl (WL.move rfl rfl (WL.want rfl rfl rfl (WL.move rfl rfl (WL.want rfl rfl rfl (?_)))))))
            refine WL.indexT (e := ebool) Try.underlying57 Try.sizeOf4 hX.free.rsl rfl rfl ⟨hpf, by omega⟩ rfl ?_
            intro bb2 oo2 hcc2
            refine WL.want rfl rfl rfl (?_)
            refine WL.load Try.isAgg4 rfl (hcc2 0 _ rfl) rfl ?_
            refine WL.pickF rfl rfl rfl (WL.nil (WX.then_normal (WC.cond_false rfl (WC.skip (WX.then_normal (WC.region (WL.move rfl rfl (?_))))))))
            refine WL.move rfl rfl (?_)
            obtain ⟨gF, hgF⟩ := hX.free.place0 (j := p.a.toNat) hpl
            have hFr : Row _ _ 4 ebool x.fao x.fc fl2 := hX.free
            have hgF' : x.fao = some ⟨gF, 0, none⟩ := hgF
            have hkF := (hX.free.kb.at_ _ hgF).2
            rw [hgF'] at hFr
            refine WL.index (j := p.a.toNat) Try.underlying57 Try.sizeOf4 (by show some (Value.slice x.fao _ _) = _; rw [hgF']) rfl (by omega) hpl rfl ?_
            refine WL.storeRow (z := true) p.a.toNat Try.sizeOf4 hFr rfl rfl rfl (by show 0 + _ * 1 = _; omega) hpl rfl ?_
            intro w9 z9 hF9 k9
            have hX9 := hX.setF (ao2 := x.fao) (c2 := x.fc) (fl2 := fl2.set p.a.toNat true) (by rw [hgF']; exact hF9) (k9.mono (fun b _ e => ⟨_, hgF, e⟩)) (.inl rfl)
            replace hT := hT.chgK k9 (fun b _ e e2 => by
              have e3 : b = gF := e
              rw [e3] at e2
              have e4 : some (some 4) = some (some 27) := hkF.symm.trans e2
              exact absurd e4 (by decide))
            replace hA := hA.chg k9 (fun b _ h2 h3 => by have h4 : b = gF := h3; have h5 : w.heap.size ≤ gF := (hX.free.at_ _ hgF).1; omega)
            refine WL.nil (WX.block_normal (WX.then_normal (WC.region (WL.move rfl rfl (WL.add64 rfl rfl (by first | omega | (constructor <;> omega)) rfl (WL.assign rfl rfl (WL.nil (?_))))))))
            first
              | exact WX.loop_next (i + 1, ⟨x.l, ⟨aH, cH, x.H.xs ++ [(i : Int)]⟩, ⟨aO, cO, x.O.xs ++ [(i : Int)]⟩, ⟨aB, cB, x.B.xs ++ [1 + (i : Int) % (bs : Int)]⟩, x.sao, x.sc, x.sn, aF, cF, x.fl ++ [false]⟩) ⟨rfl, rfl, rfl, rfl, rfl, rfl, rfl, rfl, rfl, rfl, rfl, trivial⟩ ⟨⟨by show i + 1 ≤ 4; omega, .inr (by show i + 1 ≤ od; omega)⟩, ⟨by show (x.B.xs ++ [_]).length = i + 1; simp [hBl], fun b hb => (by
                  rcases List.mem_append.1 hb with h1 | h1
                  ·
                    exact hBb b h1
                  ·
                    rw [List.mem_singleton.1 h1]; omega), by show x.H.xs ++ [(i : Int)] = _; rw [List.range_succ, List.map_append, hHx]; rfl, by show x.O.xs ++ [(i : Int)] = _; rw [List.range_succ, List.map_append, hOx]; rfl, by show x.fl ++ [false] = _; rw [hfl, List.replicate_succ']⟩, hE4, hA⟩ (by show 4 - (i + 1) < 4 - i; omega)
              | exact WX.loop_next (j + 1, _, fl2.set p.a.toNat true) ⟨rfl, rfl, rfl, rfl, rfl, rfl, rfl, by simp [List.lookup, ev, List.length_set], rfl, rfl, rfl, trivial⟩ ⟨⟨by show j + 1 ≤ _; omega, hMk.step hp hp0⟩, hX9, hT, hA⟩ (by show td.ps.length - (j + 1) < td.ps.length - j; omega)
              | exact WX.loop_next (k + 1, true) ⟨rfl, rfl, rfl, rfl, rfl, rfl, rfl, rfl, rfl, rfl, rfl, rfl, trivial⟩ ⟨⟨by show k + 1 ≤ _; omega, (by
                  have h1 := hbq.1 hb254
                  refine ⟨fun _ => ?_, fun _ => rfl⟩
                  rcases h1 with h1 | h1 | ⟨V, hV, h1⟩
                  ·
                    exact .inl h1
                  ·
                    exact .inr (.inl h1)
                  ·
                    exact .inr (.inr ⟨V, (List.take_subset_take_left _ (Nat.le_succ k)) hV, h1⟩))⟩, hX, hA⟩ (by show y.sn.length - (k + 1) < y.sn.length - k; omega)
              | exact WX.loop_next (k + 1, decide ((m : Int) ∈ r.xs)) ⟨rfl, rfl, rfl, rfl, rfl, rfl, rfl, rfl, rfl, rfl, rfl, rfl, trivial⟩ ⟨⟨by show k + 1 ≤ _; omega, (by
                  have h1 : ¬ ((m : Int) ∈ y.H.xs ∨ (m : Int) ∈ y.O.xs ∨ ∃ V ∈ (vsI y.sn).take k, (m : Int) ∈ V) := fun h3 => by have := hbq.2 h3; rw [hb254] at this; cases this
                  show decide ((m : Int) ∈ r.xs) = true ↔ (m : Int) ∈ y.H.xs ∨ (m : Int) ∈ y.O.xs ∨ ∃ V ∈ (vsI y.sn).take (k + 1), (m : Int) ∈ V
                  rw [List.take_add_one, vsI_at hr, decide_eq_true_iff]
                  constructor
                  ·
                    intro h2
                    exact .inr (.inr ⟨r.xs, by simp, h2⟩)
                  ·
                    rintro (h2 | h2 | ⟨V, hV, h2⟩)
                    ·
                      exact absurd (.inl h2) h1
                    ·
                      exact absurd (.inr (.inl h2)) h1
                    ·
                      rcases List.mem_append.1 hV with h3 | h3
                      ·
                        exact absurd (.inr (.inr ⟨V, h3, h2⟩)) h1
                      ·
                        rw [show V = r.xs by simpa using h3] at h2
                        exact h2)⟩, hX, hA⟩ (by show y.sn.length - (k + 1) < y.sn.length - k; omega)
              | exact WX.loop_next (m + 1) ⟨rfl, rfl, rfl, rfl, rfl, rfl, rfl, rfl, rfl, rfl, trivial⟩ ⟨by omega, hX, hA⟩ (by omega)
              | exact WX.loop_next (i + 1, t + 1, n2, y) ⟨rfl, rfl, rfl, rfl, rfl, rfl, rfl, rfl, rfl, trivial⟩ ⟨⟨by show i + 1 ≤ _; omega, by show i + 1 ≤ _; omega⟩, hM2, hX, hA⟩ (by show 80 - (i + 1) < 80 - i; omega)
              | exact WX.loop_next (i + 1, t + 1, n, x) ⟨rfl, rfl, rfl, rfl, rfl, rfl, rfl, rfl, rfl, trivial⟩ ⟨⟨by show i + 1 ≤ _; omega, by show i + 1 ≤ _; omega⟩, hM.skip, hX, hA⟩ (by show 80 - (i + 1) < 80 - i; omega)
          ·
            refine WL.nil (WX.then_normal (WC.cond_false rfl (WC.exit (WX.then_exit (WX.then_exit (WX.block_here (WX.then_normal (?_))))))))
            refine WC.seq (WC.region (WL.assign rfl rfl (WL.nil (WX.then_normal (WC.block (?_))))))
            have hjt : j = td.ps.length := by omega
            subst hjt
            have hM := hP.mark hMk
            obtain ⟨y, hy⟩ : ∃ y : XS, y = { x with fl := fl2 } := ⟨_, rfl⟩
            have hM2 : MXx (t + 1) (i + 1) y := by rw [hy]; exact hM
            have hz2 := hM2.z
            have hf3 := hM2.fl
            have hV2 := vsI_len y.sn
            rw [← hy] at hX
            refine WC.loop (σ := Nat) (fun m => [(2, .slice a2 l2.length c2), (7, vi (t + 1)), (8, gptr g8), (9, rsv y.H), (10, .slice y.sao y.sn.length y.sc), (11, rsv y.O), (12, rsv y.B), (13, .slice y.fao y.fl.length y.fc), (15, vi (i : Int)), (24, vi (m : Int))])
              (fun m w' => m ≤ y.fl.length ∧ EX w n2 g8 y w' ∧ RSl (· < w.heap.size) w' eop2 a2 c2 l2) (fun m => y.fl.length - m) 0 ⟨rfl, rfl, rfl, by rw [hy]; rfl, by rw [hy]; rfl, by rw [hy]; rfl, by rw [hy]; rfl, by rw [hy]; rfl, rfl, rfl, trivial⟩ ⟨Nat.zero_le _, hX, hA⟩ ?_
            clear hX hT hA hM hMk hy
            rintro m w2 ⟨hm, hX, hA⟩
            refine WC.seq (WC.seq (WC.region (WL.move rfl rfl (WL.move rfl rfl (WL.len Try.underlying57 rfl rfl (?_))))))
            refine WL.lss? rfl rfl rfl (fun h236 => ?_) (fun h236 => ?_)
            ·
              refine WL.nil (WX.then_normal (WC.cond_true rfl (WC.skip (WX.then_normal (WC.seq (WC.block (WC.seq (?_))))))))
              refine WC.region (WL.move rfl rfl (WL.move rfl rfl (?_)))
              refine WL.call eg_22 rfl rfl (has_calls hX.head.rsl (by omega) (m : Int)) ?_
              rintro v w3 ⟨rfl, k3⟩
              have zs_k3 := k3.size
              replace hX := hX.pure k3
              replace hA := hA.pure k3
              refine WL.move rfl rfl (?_)
              refine WL.caseB (t := 242) rfl (fun hb242 => ?_) (fun hb242 => ?_)
              ·
                refine WL.pass rfl rfl rfl rfl (WL.pass rfl rfl rfl rfl (WL.pass rfl rfl rfl rfl (WL.pickT rfl rfl rfl (WL.assign rfl rfl (WL.nil (WX.then_normal (WC.seq (?_))))))))
                refine WC.seq (WC.region (WL.assign rfl rfl (WL.nil (WX.then_normal (WC.block (?_))))))
                obtain ⟨b0, hb0, hb0'⟩ : ∃ b0 : Bool, True ∧ (b0 = true ↔ (m : Int) ∈ y.H.xs ∨ (m : Int) ∈ y.O.xs) := ⟨decide ((m : Int) ∈ y.H.xs ∨ (m : Int) ∈ y.O.xs), trivial, by simp⟩
                refine WC.loop (σ := Nat × Bool) (fun q => [(2, .slice a2 l2.length c2), (7, vi (t + 1)), (8, gptr g8), (9, rsv y.H), (10, .slice y.sao y.sn.length y.sc), (11, rsv y.O), (12, rsv y.B), (13, .slice y.fao y.fl.length y.fc), (15, vi (i : Int)), (24, vi (m : Int)), (25, .bool q.2), (26, vi (q.1 : Int))])
                  (fun q w' => (q.1 ≤ y.sn.length ∧ (q.2 = true ↔ (m : Int) ∈ y.H.xs ∨ (m : Int) ∈ y.O.xs ∨ ∃ V ∈ (vsI y.sn).take q.1, (m : Int) ∈ V)) ∧ EX w n2 g8 y w' ∧ RSl (· < w.heap.size) w' eop2 a2 c2 l2) (fun q => y.sn.length - q.1) (0, b0) ⟨rfl, rfl, rfl, rfl, rfl, rfl, rfl, rfl, rfl, rfl, ?_, rfl, trivial⟩ ⟨⟨Nat.zero_le _, by simpa using hb0'⟩, hX, hA⟩ ?_
                ·
                  first
                    | (rw [show b0 = true from hb0'.2 (.inl (of_decide_eq_true hb242))]
                       rfl)
                    | (have h1 : ¬ (m : Int) ∈ y.H.xs := of_decide_eq_false hb242
                       have h2 : b0 = decide ((m : Int) ∈ y.O.xs) := by
                         cases b0 with
                         | false => exact (decide_eq_false (fun h3 => by have := hb0'.2 (.inr h3); cases this)).symm
                         | true => exact (decide_eq_true ((hb0'.1 rfl).resolve_left h1)).symm
                       rw [h2]
                       rfl)
                clear hX hA
                rintro ⟨k, bq⟩ w3 ⟨⟨hk, hbq⟩, hX, hA⟩
                simp only at hk hbq
                dsimp only
                refine WC.seq (WC.seq (WC.region (WL.move rfl rfl (WL.move rfl rfl (WL.len Try.underlying56 rfl rfl (?_))))))
                refine WL.lss? rfl rfl rfl (fun h250 => ?_) (fun h250 => ?_)
                ·
                  refine WL.nil (WX.then_normal (WC.cond_true rfl (WC.skip (WX.then_normal (WC.seq (WC.block (WC.region (?_))))))))
                  refine WL.move rfl rfl (WL.move rfl rfl (?_))
                  refine WL.caseB (t := 254) rfl (fun hb254 => ?_) (fun hb254 => ?_)
                  ·
                    refine WL.pass rfl rfl rfl rfl (WL.pass rfl rfl rfl rfl (WL.pass rfl rfl rfl rfl (WL.pass rfl rfl rfl rfl (WL.pass rfl rfl rfl rfl (WL.pass rfl rfl rfl rfl (WL.pickT rfl rfl rfl (WL.assign rfl rfl (?_))))))))
                    refine WL.nil (WX.block_normal (WX.then_normal (WC.region (WL.move rfl rfl (WL.add64 rfl rfl (by first | omega | (constructor <;> omega)) rfl (WL.assign rfl rfl (WL.nil (?_))))))))
                    first
                      | exact WX.loop_next (i + 1, ⟨x.l, ⟨aH, cH, x.H.xs ++ [(i : Int)]⟩, ⟨aO, cO, x.O.xs ++ [(i : Int)]⟩, ⟨aB, cB, x.B.xs ++ [1 + (i : Int) % (bs : Int)]⟩, x.sao, x.sc, x.sn, aF, cF, x.fl ++ [false]⟩) ⟨rfl, rfl, rfl, rfl, rfl, rfl, rfl, rfl, rfl, rfl, rfl, trivial⟩ ⟨⟨by show i + 1 ≤ 4; omega, .inr (by show i + 1 ≤ od; omega)⟩, ⟨by show (x.B.xs ++ [_]).length = i + 1; simp [hBl], fun b hb => (by
                          rcases List.mem_append.1 hb with h1 | h1
                          ·
                            exact hBb b h1
                          ·
                            rw [List.mem_singleton.1 h1]; omega), by show x.H.xs ++ [(i : Int)] = _; rw [List.range_succ, List.map_append, hHx]; rfl, by show x.O.xs ++ [(i : Int)] = _; rw [List.range_succ, List.map_append, hOx]; rfl, by show x.fl ++ [false] = _; rw [hfl, List.replicate_succ']⟩, hE4, hA⟩ (by show 4 - (i + 1) < 4 - i; omega)
                      | exact WX.loop_next (j + 1, _, fl2.set p.a.toNat true) ⟨rfl, rfl, rfl, rfl, rfl, rfl, rfl, by simp [List.lookup, ev, List.length_set], rfl, rfl, rfl, trivial⟩ ⟨⟨by show j + 1 ≤ _; omega, hMk.step hp hp0⟩, hX9, hT, hA⟩ (by show td.ps.length - (j + 1) < td.ps.length - j; omega)
                      | exact WX.loop_next (k + 1, true) ⟨rfl, rfl, rfl, rfl, rfl, rfl, rfl, rfl, rfl, rfl, rfl, rfl, trivial⟩ ⟨⟨by show k + 1 ≤ _; omega, (by
                          have h1 := hbq.1 hb254
                          refine ⟨fun _ => ?_, fun _ => rfl⟩
                          rcases h1 with h1 | h1 | ⟨V, hV, h1⟩
                          ·
                            exact .inl h1
                          ·
                            exact .inr (.inl h1)
                          ·
                            exact .inr (.inr ⟨V, (List.take_subset_take_left _ (Nat.le_succ k)) hV, h1⟩))⟩, hX, hA⟩ (by show y.sn.length - (k + 1) < y.sn.length - k; omega)
                      | exact WX.loop_next (k + 1, decide ((m : Int) ∈ r.xs)) ⟨rfl, rfl, rfl, rfl, rfl, rfl, rfl, rfl, rfl, rfl, rfl, rfl, trivial⟩ ⟨⟨by show k + 1 ≤ _; omega, (by
                          have h1 : ¬ ((m : Int) ∈ y.H.xs ∨ (m : Int) ∈ y.O.xs ∨ ∃ V ∈ (vsI y.sn).take k, (m : Int) ∈ V) := fun h3 => by have := hbq.2 h3; rw [hb254] at this; cases this
                          show decide ((m : Int) ∈ r.xs) = true ↔ (m : Int) ∈ y.H.xs ∨ (m : Int) ∈ y.O.xs ∨ ∃ V ∈ (vsI y.sn).take (k + 1), (m : Int) ∈ V
                          rw [List.take_add_one, vsI_at hr, decide_eq_true_iff]
                          constructor
                          ·
                            intro h2
                            exact .inr (.inr ⟨r.xs, by simp, h2⟩)
                          ·
                            rintro (h2 | h2 | ⟨V, hV, h2⟩)
                            ·
                              exact absurd (.inl h2) h1
                            ·
                              exact absurd (.inr (.inl h2)) h1
                            ·
                              rcases List.mem_append.1 hV with h3 | h3
                              ·
                                exact absurd (.inr (.inr ⟨V, h3, h2⟩)) h1
                              ·
                                rw [show V = r.xs by simpa using h3] at h2
                                exact h2)⟩, hX, hA⟩ (by show y.sn.length - (k + 1) < y.sn.length - k; omega)
                      | exact WX.loop_next (m + 1) ⟨rfl, rfl, rfl, rfl, rfl, rfl, rfl, rfl, rfl, rfl, trivial⟩ ⟨by omega, hX, hA⟩ (by omega)
                      | exact WX.loop_next (i + 1, t + 1, n2, y) ⟨rfl, rfl, rfl, rfl, rfl, rfl, rfl, rfl, rfl, trivial⟩ ⟨⟨by show i + 1 ≤ _; omega, by show i + 1 ≤ _; omega⟩, hM2, hX, hA⟩ (by show 80 - (i + 1) < 80 - i; omega)
                      | exact WX.loop_next (i + 1, t + 1, n, x) ⟨rfl, rfl, rfl, rfl, rfl, rfl, rfl, rfl, rfl, trivial⟩ ⟨⟨by show i + 1 ≤ _; omega, by show i + 1 ≤ _; omega⟩, hM.skip, hX, hA⟩ (by show 80 - (i + 1) < 80 - i; omega)
                  ·
                    refine WL.want rfl rfl rfl (WL.move rfl rfl (WL.want rfl rfl rfl (WL.move rfl rfl (WL.want rfl rfl rfl (?_)))))
                    obtain ⟨r, hr⟩ : ∃ r, y.sn[k]? = some r := ⟨_, List.getElem?_eq_getElem (by omega)⟩
                    refine WL.indexT (e := erowI) Try.underlying56 Try.sizeOf55 hX.snaps.rsl rfl rfl ⟨hr, rfl⟩ rfl ?_
                    intro bb oo hcc
                    refine WL.want rfl rfl rfl (?_)
                    refine WL.load Try.isAgg55 rfl (hcc 0 _ rfl) rfl ?_
                    refine WL.want rfl rfl rfl (WL.move rfl rfl (WL.want rfl rfl rfl (?_)))
                    refine WL.call eg_22 rfl rfl (has_calls (hX.inner r (List.mem_of_getElem? hr)).rsl (by have := hM2.zo.2 r.xs (List.mem_map.2 ⟨r, List.mem_of_getElem? hr, rfl⟩); omega) (m : Int)) ?_
                    rintro v w4 ⟨rfl, k4⟩
                    have zs_k4 := k4.size
                    replace hX := hX.pure k4
                    replace hA := hA.pure k4
                    refine WL.pickF rfl rfl rfl (WL.assign rfl rfl (WL.nil (WX.block_normal (WX.then_normal (WC.region (WL.move rfl rfl (WL.add64 rfl rfl (by first | omega | (constructor <;> omega)) rfl (?_))))))))
                    refine WL.assign rfl rfl (WL.nil (?_))
                    first
                      | exact WX.loop_next (i + 1, ⟨x.l, ⟨aH, cH, x.H.xs ++ [(i : Int)]⟩, ⟨aO, cO, x.O.xs ++ [(i : Int)]⟩, ⟨aB, cB, x.B.xs ++ [1 + (i : Int) % (bs : Int)]⟩, x.sao, x.sc, x.sn, aF, cF, x.fl ++ [false]⟩) ⟨rfl, rfl, rfl, rfl, rfl, rfl, rfl, rfl, rfl, rfl, rfl, trivial⟩ ⟨⟨by show i + 1 ≤ 4; omega, .inr (by show i + 1 ≤ od; omega)⟩, ⟨by show (x.B.xs ++ [_]).length = i + 1; simp [hBl], fun b hb => (by
                          rcases List.mem_append.1 hb with h1 | h1
                          ·
                            exact hBb b h1
                          ·
                            rw [List.mem_singleton.1 h1]; omega), by show x.H.xs ++ [(i : Int)] = _; rw [List.range_succ, List.map_append, hHx]; rfl, by show x.O.xs ++ [(i : Int)] = _; rw [List.range_succ, List.map_append, hOx]; rfl, by show x.fl ++ [false] = _; rw [hfl, List.replicate_succ']⟩, hE4, hA⟩ (by show 4 - (i + 1) < 4 - i; omega)
                      | exact WX.loop_next (j + 1, _, fl2.set p.a.toNat true) ⟨rfl, rfl, rfl, rfl, rfl, rfl, rfl, by simp [List.lookup, ev, List.length_set], rfl, rfl, rfl, trivial⟩ ⟨⟨by show j + 1 ≤ _; omega, hMk.step hp hp0⟩, hX9, hT, hA⟩ (by show td.ps.length - (j + 1) < td.ps.length - j; omega)
                      | exact WX.loop_next (k + 1, true) ⟨rfl, rfl, rfl, rfl, rfl, rfl, rfl, rfl, rfl, rfl, rfl, rfl, trivial⟩ ⟨⟨by show k + 1 ≤ _; omega, (by
                          have h1 := hbq.1 hb254
                          refine ⟨fun _ => ?_, fun _ => rfl⟩
                          rcases h1 with h1 | h1 | ⟨V, hV, h1⟩
                          ·
                            exact .inl h1
                          ·
                            exact .inr (.inl h1)
                          ·
                            exact .inr (.inr ⟨V, (List.take_subset_take_left _ (Nat.le_succ k)) hV, h1⟩))⟩, hX, hA⟩ (by show y.sn.length - (k + 1) < y.sn.length - k; omega)
                      | exact WX.loop_next (k + 1, decide ((m : Int) ∈ r.xs)) ⟨rfl, rfl, rfl, rfl, rfl, rfl, rfl, rfl, rfl, rfl, rfl, rfl, trivial⟩ ⟨⟨by show k + 1 ≤ _; omega, (by
                          have h1 : ¬ ((m : Int) ∈ y.H.xs ∨ (m : Int) ∈ y.O.xs ∨ ∃ V ∈ (vsI y.sn).take k, (m : Int) ∈ V) := fun h3 => by have := hbq.2 h3; rw [hb254] at this; cases this
                          show decide ((m : Int) ∈ r.xs) = true ↔ (m : Int) ∈ y.H.xs ∨ (m : Int) ∈ y.O.xs ∨ ∃ V ∈ (vsI y.sn).take (k + 1), (m : Int) ∈ V
                          rw [List.take_add_one, vsI_at hr, decide_eq_true_iff]
                          constructor
                          ·
                            intro h2
                            exact .inr (.inr ⟨r.xs, by simp, h2⟩)
                          ·
                            rintro (h2 | h2 | ⟨V, hV, h2⟩)
                            ·
                              exact absurd (.inl h2) h1
                            ·
                              exact absurd (.inr (.inl h2)) h1
                            ·
                              rcases List.mem_append.1 hV with h3 | h3
                              ·
                                exact absurd (.inr (.inr ⟨V, h3, h2⟩)) h1
                              ·
                                rw [show V = r.xs by simpa using h3] at h2
                                exact h2)⟩, hX, hA⟩ (by show y.sn.length - (k + 1) < y.sn.length - k; omega)
                      | exact WX.loop_next (m + 1) ⟨rfl, rfl, rfl, rfl, rfl, rfl, rfl, rfl, rfl, rfl, trivial⟩ ⟨by omega, hX, hA⟩ (by omega)
                      | exact WX.loop_next (i + 1, t + 1, n2, y) ⟨rfl, rfl, rfl, rfl, rfl, rfl, rfl, rfl, rfl, trivial⟩ ⟨⟨by show i + 1 ≤ _; omega, by show i + 1 ≤ _; omega⟩, hM2, hX, hA⟩ (by show 80 - (i + 1) < 80 - i; omega)
                      | exact WX.loop_next (i + 1, t + 1, n, x) ⟨rfl, rfl, rfl, rfl, rfl, rfl, rfl, rfl, rfl, trivial⟩ ⟨⟨by show i + 1 ≤ _; omega, by show i + 1 ≤ _; omega⟩, hM.skip, hX, hA⟩ (by show 80 - (i + 1) < 80 - i; omega)
                ·
                  refine WL.nil (WX.then_normal (WC.cond_false rfl (WC.exit (WX.then_exit (WX.then_exit (WX.block_here (WX.then_normal (?_))))))))
                  refine WC.seq (WC.region (WL.move rfl rfl (WL.move rfl rfl (?_))))
                  obtain ⟨fb, hfb⟩ : ∃ fb, y.fl[m]? = some fb := ⟨_, List.getElem?_eq_getElem (by omega)⟩
                  refine WL.indexT (e := ebool) Try.underlying57 Try.sizeOf4 hX.free.rsl rfl rfl ⟨hfb, rfl⟩ rfl ?_
                  intro bb oo hcc
                  refine WL.load Try.isAgg4 rfl (hcc 0 _ rfl) rfl ?_
                  refine WL.move rfl rfl (?_)
                  have hne : (fb == bq) = false := by
                    have h1 := hM2.hf m fb hfb
                    rw [need_iff] at h1
                    rw [show k = (vsI y.sn).length by omega, List.take_length] at hbq
                    cases fb with
                    | true =>
                      cases bq with
                      | true => exact absurd (hbq.1 rfl) (h1.1 rfl)
                      | false => rfl
                    | false =>
                      cases bq with
                      | true => rfl
                      | false =>
                        have h2 : ¬ ((m : Int) ∈ y.H.xs ∨ (m : Int) ∈ y.O.xs ∨ ∃ V ∈ vsI y.sn, (m : Int) ∈ V) := fun h3 => by have := hbq.2 h3; cases this
                        have := h1.2 h2
                        cases this
                  refine WL.beql Try.underlying4 rfl rfl rfl ?_
                  rw [hne]
                  refine WL.nil (WX.then_normal (WC.cond_false rfl (WC.skip (WX.block_normal (WX.then_normal (WC.region (WL.move rfl rfl (?_))))))))
                  refine WL.add64 rfl rfl (by first | omega | (constructor <;> omega)) rfl (WL.assign rfl rfl (WL.nil (?_)))
                  first
                    | exact WX.loop_next (i + 1, ⟨x.l, ⟨aH, cH, x.H.xs ++ [(i : Int)]⟩, ⟨aO, cO, x.O.xs ++ [(i : Int)]⟩, ⟨aB, cB, x.B.xs ++ [1 + (i : Int) % (bs : Int)]⟩, x.sao, x.sc, x.sn, aF, cF, x.fl ++ [false]⟩) ⟨rfl, rfl, rfl, rfl, rfl, rfl, rfl, rfl, rfl, rfl, rfl, trivial⟩ ⟨⟨by show i + 1 ≤ 4; omega, .inr (by show i + 1 ≤ od; omega)⟩, ⟨by show (x.B.xs ++ [_]).length = i + 1; simp [hBl], fun b hb => (by
                        rcases List.mem_append.1 hb with h1 | h1
                        ·
                          exact hBb b h1
                        ·
                          rw [List.mem_singleton.1 h1]; omega), by show x.H.xs ++ [(i : Int)] = _; rw [List.range_succ, List.map_append, hHx]; rfl, by show x.O.xs ++ [(i : Int)] = _; rw [List.range_succ, List.map_append, hOx]; rfl, by show x.fl ++ [false] = _; rw [hfl, List.replicate_succ']⟩, hE4, hA⟩ (by show 4 - (i + 1) < 4 - i; omega)
                    | exact WX.loop_next (j + 1, _, fl2.set p.a.toNat true) ⟨rfl, rfl, rfl, rfl, rfl, rfl, rfl, by simp [List.lookup, ev, List.length_set], rfl, rfl, rfl, trivial⟩ ⟨⟨by show j + 1 ≤ _; omega, hMk.step hp hp0⟩, hX9, hT, hA⟩ (by show td.ps.length - (j + 1) < td.ps.length - j; omega)
                    | exact WX.loop_next (k + 1, true) ⟨rfl, rfl, rfl, rfl, rfl, rfl, rfl, rfl, rfl, rfl, rfl, rfl, trivial⟩ ⟨⟨by show k + 1 ≤ _; omega, (by
                        have h1 := hbq.1 hb254
                        refine ⟨fun _ => ?_, fun _ => rfl⟩
                        rcases h1 with h1 | h1 | ⟨V, hV, h1⟩
                        ·
                          exact .inl h1
                        ·
                          exact .inr (.inl h1)
                        ·
                          exact .inr (.inr ⟨V, (List.take_subset_take_left _ (Nat.le_succ k)) hV, h1⟩))⟩, hX, hA⟩ (by show y.sn.length - (k + 1) < y.sn.length - k; omega)
                    | exact WX.loop_next (k + 1, decide ((m : Int) ∈ r.xs)) ⟨rfl, rfl, rfl, rfl, rfl, rfl, rfl, rfl, rfl, rfl, rfl, rfl, trivial⟩ ⟨⟨by show k + 1 ≤ _; omega, (by
                        have h1 : ¬ ((m : Int) ∈ y.H.xs ∨ (m : Int) ∈ y.O.xs ∨ ∃ V ∈ (vsI y.sn).take k, (m : Int) ∈ V) := fun h3 => by have := hbq.2 h3; rw [hb254] at this; cases this
                        show decide ((m : Int) ∈ r.xs) = true ↔ (m : Int) ∈ y.H.xs ∨ (m : Int) ∈ y.O.xs ∨ ∃ V ∈ (vsI y.sn).take (k + 1), (m : Int) ∈ V
                        rw [List.take_add_one, vsI_at hr, decide_eq_true_iff]
                        constructor
                        ·
                          intro h2
                          exact .inr (.inr ⟨r.xs, by simp, h2⟩)
                        ·
                          rintro (h2 | h2 | ⟨V, hV, h2⟩)
                          ·
                            exact absurd (.inl h2) h1
                          ·
                            exact absurd (.inr (.inl h2)) h1
                          ·
                            rcases List.mem_append.1 hV with h3 | h3
                            ·
                              exact absurd (.inr (.inr ⟨V, h3, h2⟩)) h1
                            ·
                              rw [show V = r.xs by simpa using h3] at h2
                              exact h2)⟩, hX, hA⟩ (by show y.sn.length - (k + 1) < y.sn.length - k; omega)
                    | exact WX.loop_next (m + 1) ⟨rfl, rfl, rfl, rfl, rfl, rfl, rfl, rfl, rfl, rfl, trivial⟩ ⟨by omega, hX, hA⟩ (by omega)
                    | exact WX.loop_next (i + 1, t + 1, n2, y) ⟨rfl, rfl, rfl, rfl, rfl, rfl, rfl, rfl, rfl, trivial⟩ ⟨⟨by show i + 1 ≤ _; omega, by show i + 1 ≤ _; omega⟩, hM2, hX, hA⟩ (by show 80 - (i + 1) < 80 - i; omega)
                    | exact WX.loop_next (i + 1, t + 1, n, x) ⟨rfl, rfl, rfl, rfl, rfl, rfl, rfl, rfl, rfl, trivial⟩ ⟨⟨by show i + 1 ≤ _; omega, by show i + 1 ≤ _; omega⟩, hM.skip, hX, hA⟩ (by show 80 - (i + 1) < 80 - i; omega)
              ·
                refine WL.want rfl rfl rfl (WL.move rfl rfl (WL.want rfl rfl rfl (WL.move rfl rfl (WL.want rfl rfl rfl (?_)))))
                refine WL.call eg_22 rfl rfl (has_calls hX.org.rsl (by have := hM2.zo.1; omega) (m : Int)) ?_
                rintro v w3 ⟨rfl, k3⟩
                have zs_k3 := k3.size
                replace hX := hX.pure k3
                replace hA := hA.pure k3
                refine WL.pickF rfl rfl rfl (WL.assign rfl rfl (WL.nil (WX.then_normal (WC.seq (WC.seq (WC.region (WL.assign rfl rfl (?_))))))))
                refine WL.nil (WX.then_normal (WC.block (?_)))
                obtain ⟨b0, hb0, hb0'⟩ : ∃ b0 : Bool, True ∧ (b0 = true ↔ (m : Int) ∈ y.H.xs ∨ (m : Int) ∈ y.O.xs) := ⟨decide ((m : Int) ∈ y.H.xs ∨ (m : Int) ∈ y.O.xs), trivial, by simp⟩
                refine WC.loop (σ := Nat × Bool) (fun q => [(2, .slice a2 l2.length c2), (7, vi (t + 1)), (8, gptr g8), (9, rsv y.H), (10, .slice y.sao y.sn.length y.sc), (11, rsv y.O), (12, rsv y.B), (13, .slice y.fao y.fl.length y.fc), (15, vi (i : Int)), (24, vi (m : Int)), (25, .bool q.2), (26, vi (q.1 : Int))])
                  (fun q w' => (q.1 ≤ y.sn.length ∧ (q.2 = true ↔ (m : Int) ∈ y.H.xs ∨ (m : Int) ∈ y.O.xs ∨ ∃ V ∈ (vsI y.sn).take q.1, (m : Int) ∈ V)) ∧ EX w n2 g8 y w' ∧ RSl (· < w.heap.size) w' eop2 a2 c2 l2) (fun q => y.sn.length - q.1) (0, b0) ⟨rfl, rfl, rfl, rfl, rfl, rfl, rfl, rfl, rfl, rfl, ?_, rfl, trivial⟩ ⟨⟨Nat.zero_le _, by simpa using hb0'⟩, hX, hA⟩ ?_
                ·
                  first
                    | (rw [show b0 = true from hb0'.2 (.inl (of_decide_eq_true hb242))]
                       rfl)
                    | (have h1 : ¬ (m : Int) ∈ y.H.xs := of_decide_eq_false hb242
                       have h2 : b0 = decide ((m : Int) ∈ y.O.xs) := by
                         cases b0 with
                         | false => exact (decide_eq_false (fun h3 => by have := hb0'.2 (.inr h3); cases this)).symm
                         | true => exact (decide_eq_true ((hb0'.1 rfl).resolve_left h1)).symm
                       rw [h2]
                       rfl)
                clear hX hA
                rintro ⟨k, bq⟩ w3 ⟨⟨hk, hbq⟩, hX, hA⟩
                simp only at hk hbq
                dsimp only
                refine WC.seq (WC.seq (WC.region (WL.move rfl rfl (WL.move rfl rfl (WL.len Try.underlying56 rfl rfl (?_))))))
                refine WL.lss? rfl rfl rfl (fun h250 => ?_) (fun h250 => ?_)
                ·
                  refine WL.nil (WX.then_normal (WC.cond_true rfl (WC.skip (WX.then_normal (WC.seq (WC.block (WC.region (?_))))))))
                  refine WL.move rfl rfl (WL.move rfl rfl (?_))
                  refine WL.caseB (t := 254) rfl (fun hb254 => ?_) (fun hb254 => ?_)
                  ·
                    refine WL.pass rfl rfl rfl rfl (WL.pass rfl rfl rfl rfl (WL.pass rfl rfl rfl rfl (WL.pass rfl rfl rfl rfl (WL.pass rfl rfl rfl rfl (WL.pass rfl rfl rfl rfl (WL.pickT rfl rfl rfl (WL.assign rfl rfl (?_))))))))
                    refine WL.nil (WX.block_normal (WX.then_normal (WC.region (WL.move rfl rfl (WL.add64 rfl rfl (by first | omega | (constructor <;> omega)) rfl (WL.assign rfl rfl (WL.nil (?_))))))))
                    first
                      | exact WX.loop_next (i + 1, ⟨x.l, ⟨aH, cH, x.H.xs ++ [(i : Int)]⟩, ⟨aO, cO, x.O.xs ++ [(i : Int)]⟩, ⟨aB, cB, x.B.xs ++ [1 + (i : Int) % (bs : Int)]⟩, x.sao, x.sc, x.sn, aF, cF, x.fl ++ [false]⟩) ⟨rfl, rfl, rfl, rfl, rfl, rfl, rfl, rfl, rfl, rfl, rfl, trivial⟩ ⟨⟨by show i + 1 ≤ 4; omega, .inr (by show i + 1 ≤ od; omega)⟩, ⟨by show (x.B.xs ++ [_]).length = i + 1; simp [hBl], fun b hb => (by
                          rcases List.mem_append.1 hb with h1 | h1
                          ·
                            exact hBb b h1
                          ·
                            rw [List.mem_singleton.1 h1]; omega), by show x.H.xs ++ [(i : Int)] = _; rw [List.range_succ, List.map_append, hHx]; rfl, by show x.O.xs ++ [(i : Int)] = _; rw [List.range_succ, List.map_append, hOx]; rfl, by show x.fl ++ [false] = _; rw [hfl, List.replicate_succ']⟩, hE4, hA⟩ (by show 4 - (i + 1) < 4 - i; omega)
                      | exact WX.loop_next (j + 1, _, fl2.set p.a.toNat true) ⟨rfl, rfl, rfl, rfl, rfl, rfl, rfl, by simp [List.lookup, ev, List.length_set], rfl, rfl, rfl, trivial⟩ ⟨⟨by show j + 1 ≤ _; omega, hMk.step hp hp0⟩, hX9, hT, hA⟩ (by show td.ps.length - (j + 1) < td.ps.length - j; omega)
                      | exact WX.loop_next (k + 1, true) ⟨rfl, rfl, rfl, rfl, rfl, rfl, rfl, rfl, rfl, rfl, rfl, rfl, trivial⟩ ⟨⟨by show k + 1 ≤ _; omega, (by
                          have h1 := hbq.1 hb254
                          refine ⟨fun _ => ?_, fun _ => rfl⟩
                          rcases h1 with h1 | h1 | ⟨V, hV, h1⟩
                          ·
                            exact .inl h1
                          ·
                            exact .inr (.inl h1)
                          ·
                            exact .inr (.inr ⟨V, (List.take_subset_take_left _ (Nat.le_succ k)) hV, h1⟩))⟩, hX, hA⟩ (by show y.sn.length - (k + 1) < y.sn.length - k; omega)
                      | exact WX.loop_next (k + 1, decide ((m : Int) ∈ r.xs)) ⟨rfl, rfl, rfl, rfl, rfl, rfl, rfl, rfl, rfl, rfl, rfl, rfl, trivial⟩ ⟨⟨by show k + 1 ≤ _; omega, (by
                          have h1 : ¬ ((m : Int) ∈ y.H.xs ∨ (m : Int) ∈ y.O.xs ∨ ∃ V ∈ (vsI y.sn).take k, (m : Int) ∈ V) := fun h3 => by have := hbq.2 h3; rw [hb254] at this; cases this
                          show decide ((m : Int) ∈ r.xs) = true ↔ (m : Int) ∈ y.H.xs ∨ (m : Int) ∈ y.O.xs ∨ ∃ V ∈ (vsI y.sn).take (k + 1), (m : Int) ∈ V
                          rw [List.take_add_one, vsI_at hr, decide_eq_true_iff]
                          constructor
                          ·
                            intro h2
                            exact .inr (.inr ⟨r.xs, by simp, h2⟩)
                          ·
                            rintro (h2 | h2 | ⟨V, hV, h2⟩)
                            ·
                              exact absurd (.inl h2) h1
                            ·
                              exact absurd (.inr (.inl h2)) h1
                            ·
                              rcases List.mem_append.1 hV with h3 | h3
                              ·
                                exact absurd (.inr (.inr ⟨V, h3, h2⟩)) h1
                              ·
                                rw [show V = r.xs by simpa using h3] at h2
                                exact h2)⟩, hX, hA⟩ (by show y.sn.length - (k + 1) < y.sn.length - k; omega)
                      | exact WX.loop_next (m + 1) ⟨rfl, rfl, rfl, rfl, rfl, rfl, rfl, rfl, rfl, rfl, trivial⟩ ⟨by omega, hX, hA⟩ (by omega)
                      | exact WX.loop_next (i + 1, t + 1, n2, y) ⟨rfl, rfl, rfl, rfl, rfl, rfl, rfl, rfl, rfl, trivial⟩ ⟨⟨by show i + 1 ≤ _; omega, by show i + 1 ≤ _; omega⟩, hM2, hX, hA⟩ (by show 80 - (i + 1) < 80 - i; omega)
                      | exact WX.loop_next (i + 1, t + 1, n, x) ⟨rfl, rfl, rfl, rfl, rfl, rfl, rfl, rfl, rfl, trivial⟩ ⟨⟨by show i + 1 ≤ _; omega, by show i + 1 ≤ _; omega⟩, hM.skip, hX, hA⟩ (by show 80 - (i + 1) < 80 - i; omega)
                  ·
                    refine WL.want rfl rfl rfl (WL.move rfl rfl (WL.want rfl rfl rfl (WL.move rfl rfl (WL.want rfl rfl rfl (?_)))))
                    obtain ⟨r, hr⟩ : ∃ r, y.sn[k]? = some r := ⟨_, List.getElem?_eq_getElem (by omega)⟩
                    refine WL.indexT (e := erowI) Try.underlying56 Try.sizeOf55 hX.snaps.rsl rfl rfl ⟨hr, rfl⟩ rfl ?_
                    intro bb oo hcc
                    refine WL.want rfl rfl rfl (?_)
                    refine WL.load Try.isAgg55 rfl (hcc 0 _ rfl) rfl ?_
                    refine WL.want rfl rfl rfl (WL.move rfl rfl (WL.want rfl rfl rfl (?_)))
                    refine WL.call eg_22 rfl rfl (has_calls (hX.inner r (List.mem_of_getElem? hr)).rsl (by have := hM2.zo.2 r.xs (List.mem_map.2 ⟨r, List.mem_of_getElem? hr, rfl⟩); omega) (m : Int)) ?_
                    rintro v w4 ⟨rfl, k4⟩
                    have zs_k4 := k4.size
                    replace hX := hX.pure k4
                    replace hA := hA.pure k4
                    refine WL.pickF rfl rfl rfl (WL.assign rfl rfl (WL.nil (WX.block_normal (WX.then_normal (WC.region (WL.move rfl rfl (WL.add64 rfl rfl (by first | omega | (constructor <;> omega)) rfl (?_))))))))
                    refine WL.assign rfl rfl (WL.nil (?_))
                    first
                      | exact WX.loop_next (i + 1, ⟨x.l, ⟨aH, cH, x.H.xs ++ [(i : Int)]⟩, ⟨aO, cO, x.O.xs ++ [(i : Int)]⟩, ⟨aB, cB, x.B.xs ++ [1 + (i : Int) % (bs : Int)]⟩, x.sao, x.sc, x.sn, aF, cF, x.fl ++ [false]⟩) ⟨rfl, rfl, rfl, rfl, rfl, rfl, rfl, rfl, rfl, rfl, rfl, trivial⟩ ⟨⟨by show i + 1 ≤ 4; omega, .inr (by show i + 1 ≤ od; omega)⟩, ⟨by show (x.B.xs ++ [_]).length = i + 1; simp [hBl], fun b hb => (by
                          rcases List.mem_append.1 hb with h1 | h1
                          ·
                            exact hBb b h1
                          ·
                            rw [List.mem_singleton.1 h1]; omega), by show x.H.xs ++ [(i : Int)] = _; rw [List.range_succ, List.map_append, hHx]; rfl, by show x.O.xs ++ [(i : Int)] = _; rw [List.range_succ, List.map_append, hOx]; rfl, by show x.fl ++ [false] = _; rw [hfl, List.replicate_succ']⟩, hE4, hA⟩ (by show 4 - (i + 1) < 4 - i; omega)
                      | exact WX.loop_next (j + 1, _, fl2.set p.a.toNat true) ⟨rfl, rfl, rfl, rfl, rfl, rfl, rfl, by simp [List.lookup, ev, List.length_set], rfl, rfl, rfl, trivial⟩ ⟨⟨by show j + 1 ≤ _; omega, hMk.step hp hp0⟩, hX9, hT, hA⟩ (by show td.ps.length - (j + 1) < td.ps.length - j; omega)
                      | exact WX.loop_next (k + 1, true) ⟨rfl, rfl, rfl, rfl, rfl, rfl, rfl, rfl, rfl, rfl, rfl, rfl, trivial⟩ ⟨⟨by show k + 1 ≤ _; omega, (by
                          have h1 := hbq.1 hb254
                          refine ⟨fun _ => ?_, fun _ => rfl⟩
                          rcases h1 with h1 | h1 | ⟨V, hV, h1⟩
                          ·
                            exact .inl h1
                          ·
                            exact .inr (.inl h1)
                          ·
                            exact .inr (.inr ⟨V, (List.take_subset_take_left _ (Nat.le_succ k)) hV, h1⟩))⟩, hX, hA⟩ (by show y.sn.length - (k + 1) < y.sn.length - k; omega)
                      | exact WX.loop_next (k + 1, decide ((m : Int) ∈ r.xs)) ⟨rfl, rfl, rfl, rfl, rfl, rfl, rfl, rfl, rfl, rfl, rfl, rfl, trivial⟩ ⟨⟨by show k + 1 ≤ _; omega, (by
                          have h1 : ¬ ((m : Int) ∈ y.H.xs ∨ (m : Int) ∈ y.O.xs ∨ ∃ V ∈ (vsI y.sn).take k, (m : Int) ∈ V) := fun h3 => by have := hbq.2 h3; rw [hb254] at this; cases this
                          show decide ((m : Int) ∈ r.xs) = true ↔ (m : Int) ∈ y.H.xs ∨ (m : Int) ∈ y.O.xs ∨ ∃ V ∈ (vsI y.sn).take (k + 1), (m : Int) ∈ V
                          rw [List.take_add_one, vsI_at hr, decide_eq_true_iff]
                          constructor
                          ·
                            intro h2
                            exact .inr (.inr ⟨r.xs, by simp, h2⟩)
                          ·
                            rintro (h2 | h2 | ⟨V, hV, h2⟩)
                            ·
                              exact absurd (.inl h2) h1
                            ·
                              exact absurd (.inr (.inl h2)) h1
                            ·
                              rcases List.mem_append.1 hV with h3 | h3
                              ·
                                exact absurd (.inr (.inr ⟨V, h3, h2⟩)) h1
                              ·
                                rw [show V = r.xs by simpa using h3] at h2
                                exact h2)⟩, hX, hA⟩ (by show y.sn.length - (k + 1) < y.sn.length - k; omega)
                      | exact WX.loop_next (m + 1) ⟨rfl, rfl, rfl, rfl, rfl, rfl, rfl, rfl, rfl, rfl, trivial⟩ ⟨by omega, hX, hA⟩ (by omega)
                      | exact WX.loop_next (i + 1, t + 1, n2, y) ⟨rfl, rfl, rfl, rfl, rfl, rfl, rfl, rfl, rfl, trivial⟩ ⟨⟨by show i + 1 ≤ _; omega, by show i + 1 ≤ _; omega⟩, hM2, hX, hA⟩ (by show 80 - (i + 1) < 80 - i; omega)
                      | exact WX.loop_next (i + 1, t + 1, n, x) ⟨rfl, rfl, rfl, rfl, rfl, rfl, rfl, rfl, rfl, trivial⟩ ⟨⟨by show i + 1 ≤ _; omega, by show i + 1 ≤ _; omega⟩, hM.skip, hX, hA⟩ (by show 80 - (i + 1) < 80 - i; omega)
                ·
                  refine WL.nil (WX.then_normal (WC.cond_false rfl (WC.exit (WX.then_exit (WX.then_exit (WX.block_here (WX.then_normal (?_))))))))
                  refine WC.seq (WC.region (WL.move rfl rfl (WL.move rfl rfl (?_))))
                  obtain ⟨fb, hfb⟩ : ∃ fb, y.fl[m]? = some fb := ⟨_, List.getElem?_eq_getElem (by omega)⟩
                  refine WL.indexT (e := ebool) Try.underlying57 Try.sizeOf4 hX.free.rsl rfl rfl ⟨hfb, rfl⟩ rfl ?_
                  intro bb oo hcc
                  refine WL.load Try.isAgg4 rfl (hcc 0 _ rfl) rfl ?_
                  refine WL.move rfl rfl (?_)
                  have hne : (fb == bq) = false := by
                    have h1 := hM2.hf m fb hfb
                    rw [need_iff] at h1
                    rw [show k = (vsI y.sn).length by omega, List.take_length] at hbq
                    cases fb with
                    | true =>
                      cases bq with
                      | true => exact absurd (hbq.1 rfl) (h1.1 rfl)
                      | false => rfl
                    | false =>
                      cases bq with
                      | true => rfl
                      | false =>
                        have h2 : ¬ ((m : Int) ∈ y.H.xs ∨ (m : Int) ∈ y.O.xs ∨ ∃ V ∈ vsI y.sn, (m : Int) ∈ V) := fun h3 => by have := hbq.2 h3; cases this
                        have := h1.2 h2
                        cases this
                  refine WL.beql Try.underlying4 rfl rfl rfl ?_
                  rw [hne]
                  refine WL.nil (WX.then_normal (WC.cond_false rfl (WC.skip (WX.block_normal (WX.then_normal (WC.region (WL.move rfl rfl (?_))))))))
                  refine WL.add64 rfl rfl (by first | omega | (constructor <;> omega)) rfl (WL.assign rfl rfl (WL.nil (?_)))
                  first
                    | exact WX.loop_next (i + 1, ⟨x.l, ⟨aH, cH, x.H.xs ++ [(i : Int)]⟩, ⟨aO, cO, x.O.xs ++ [(i : Int)]⟩, ⟨aB, cB, x.B.xs ++ [1 + (i : Int) % (bs : Int)]⟩, x.sao, x.sc, x.sn, aF, cF, x.fl ++ [false]⟩) ⟨rfl, rfl, rfl, rfl, rfl, rfl, rfl, rfl, rfl, rfl, rfl, trivial⟩ ⟨⟨by show i + 1 ≤ 4; omega, .inr (by show i + 1 ≤ od; omega)⟩, ⟨by show (x.B.xs ++ [_]).length = i + 1; simp [hBl], fun b hb => (by
                        rcases List.mem_append.1 hb with h1 | h1
                        ·
                          exact hBb b h1
                        ·
                          rw [List.mem_singleton.1 h1]; omega), by show x.H.xs ++ [(i : Int)] = _; rw [List.range_succ, List.map_append, hHx]; rfl, by show x.O.xs ++ [(i : Int)] = _; rw [List.range_succ, List.map_append, hOx]; rfl, by show x.fl ++ [false] = _; rw [hfl, List.replicate_succ']⟩, hE4, hA⟩ (by show 4 - (i + 1) < 4 - i; omega)
                    | exact WX.loop_next (j + 1, _, fl2.set p.a.toNat true) ⟨rfl, rfl, rfl, rfl, rfl, rfl, rfl, by simp [List.lookup, ev, List.length_set], rfl, rfl, rfl, trivial⟩ ⟨⟨by show j + 1 ≤ _; omega, hMk.step hp hp0⟩, hX9, hT, hA⟩ (by show td.ps.length - (j + 1) < td.ps.length - j; omega)
                    | exact WX.loop_next (k + 1, true) ⟨rfl, rfl, rfl, rfl, rfl, rfl, rfl, rfl, rfl, rfl, rfl, rfl, trivial⟩ ⟨⟨by show k + 1 ≤ _; omega, (by
                        have h1 := hbq.1 hb254
                        refine ⟨fun _ => ?_, fun _ => rfl⟩
                        rcases h1 with h1 | h1 | ⟨V, hV, h1⟩
                        ·
                          exact .inl h1
                        ·
                          exact .inr (.inl h1)
                        ·
                          exact .inr (.inr ⟨V, (List.take_subset_take_left _ (Nat.le_succ k)) hV, h1⟩))⟩, hX, hA⟩ (by show y.sn.length - (k + 1) < y.sn.length - k; omega)
                    | exact WX.loop_next (k + 1, decide ((m : Int) ∈ r.xs)) ⟨rfl, rfl, rfl, rfl, rfl, rfl, rfl, rfl, rfl, rfl, rfl, rfl, trivial⟩ ⟨⟨by show k + 1 ≤ _; omega, (by
                        have h1 : ¬ ((m : Int) ∈ y.H.xs ∨ (m : Int) ∈ y.O.xs ∨ ∃ V ∈ (vsI y.sn).take k, (m : Int) ∈ V) := fun h3 => by have := hbq.2 h3; rw [hb254] at this; cases this
                        show decide ((m : Int) ∈ r.xs) = true ↔ (m : Int) ∈ y.H.xs ∨ (m : Int) ∈ y.O.xs ∨ ∃ V ∈ (vsI y.sn).take (k + 1), (m : Int) ∈ V
                        rw [List.take_add_one, vsI_at hr, decide_eq_true_iff]
                        constructor
                        ·
                          intro h2
                          exact .inr (.inr ⟨r.xs, by simp, h2⟩)
                        ·
                          rintro (h2 | h2 | ⟨V, hV, h2⟩)
                          ·
                            exact absurd (.inl h2) h1
                          ·
                            exact absurd (.inr (.inl h2)) h1
                          ·
                            rcases List.mem_append.1 hV with h3 | h3
                            ·
                              exact absurd (.inr (.inr ⟨V, h3, h2⟩)) h1
                            ·
                              rw [show V = r.xs by simpa using h3] at h2
                              exact h2)⟩, hX, hA⟩ (by show y.sn.length - (k + 1) < y.sn.length - k; omega)
                    | exact WX.loop_next (m + 1) ⟨rfl, rfl, rfl, rfl, rfl, rfl, rfl, rfl, rfl, rfl, trivial⟩ ⟨by omega, hX, hA⟩ (by omega)
                    | exact WX.loop_next (i + 1, t + 1, n2, y) ⟨rfl, rfl, rfl, rfl, rfl, rfl, rfl, rfl, rfl, trivial⟩ ⟨⟨by show i + 1 ≤ _; omega, by show i + 1 ≤ _; omega⟩, hM2, hX, hA⟩ (by show 80 - (i + 1) < 80 - i; omega)
                    | exact WX.loop_next (i + 1, t + 1, n, x) ⟨rfl, rfl, rfl, rfl, rfl, rfl, rfl, rfl, rfl, trivial⟩ ⟨⟨by show i + 1 ≤ _; omega, by show i + 1 ≤ _; omega⟩, hM.skip, hX, hA⟩ (by show 80 - (i + 1) < 80 - i; omega)
            ·
              refine WL.nil (WX.then_normal (WC.cond_false rfl (WC.exit (WX.then_exit (WX.then_exit (WX.block_here (WX.block_normal (?_))))))))
              refine WX.then_normal (WC.region (WL.move rfl rfl (WL.add64 rfl rfl (by first | omega | (constructor <;> omega)) rfl (WL.assign rfl rfl (WL.nil (?_))))))
              first
                | exact WX.loop_next (i + 1, ⟨x.l, ⟨aH, cH, x.H.xs ++ [(i : Int)]⟩, ⟨aO, cO, x.O.xs ++ [(i : Int)]⟩, ⟨aB, cB, x.B.xs ++ [1 + (i : Int) % (bs : Int)]⟩, x.sao, x.sc, x.sn, aF, cF, x.fl ++ [false]⟩) ⟨rfl, rfl, rfl, rfl, rfl, rfl, rfl, rfl, rfl, rfl, rfl, trivial⟩ ⟨⟨by show i + 1 ≤ 4; omega, .inr (by show i + 1 ≤ od; omega)⟩, ⟨by show (x.B.xs ++ [_]).length = i + 1; simp [hBl], fun b hb => (by
                    rcases List.mem_append.1 hb with h1 | h1
                    ·
                      exact hBb b h1
                    ·
                      rw [List.mem_singleton.1 h1]; omega), by show x.H.xs ++ [(i : Int)] = _; rw [List.range_succ, List.map_append, hHx]; rfl, by show x.O.xs ++ [(i : Int)] = _; rw [List.range_succ, List.map_append, hOx]; rfl, by show x.fl ++ [false] = _; rw [hfl, List.replicate_succ']⟩, hE4, hA⟩ (by show 4 - (i + 1) < 4 - i; omega)
                | exact WX.loop_next (j + 1, _, fl2.set p.a.toNat true) ⟨rfl, rfl, rfl, rfl, rfl, rfl, rfl, by simp [List.lookup, ev, List.length_set], rfl, rfl, rfl, trivial⟩ ⟨⟨by show j + 1 ≤ _; omega, hMk.step hp hp0⟩, hX9, hT, hA⟩ (by show td.ps.length - (j + 1) < td.ps.length - j; omega)
                | exact WX.loop_next (k + 1, true) ⟨rfl, rfl, rfl, rfl, rfl, rfl, rfl, rfl, rfl, rfl, rfl, rfl, trivial⟩ ⟨⟨by show k + 1 ≤ _; omega, (by
                    have h1 := hbq.1 hb254
                    refine ⟨fun _ => ?_, fun _ => rfl⟩
                    rcases h1 with h1 | h1 | ⟨V, hV, h1⟩
                    ·
                      exact .inl h1
                    ·
                      exact .inr (.inl h1)
                    ·
                      exact .inr (.inr ⟨V, (List.take_subset_take_left _ (Nat.le_succ k)) hV, h1⟩))⟩, hX, hA⟩ (by show y.sn.length - (k + 1) < y.sn.length - k; omega)
                | exact WX.loop_next (k + 1, decide ((m : Int) ∈ r.xs)) ⟨rfl, rfl, rfl, rfl, rfl, rfl, rfl, rfl, rfl, rfl, rfl, rfl, trivial⟩ ⟨⟨by show k + 1 ≤ _; omega, (by
                    have h1 : ¬ ((m : Int) ∈ y.H.xs ∨ (m : Int) ∈ y.O.xs ∨ ∃ V ∈ (vsI y.sn).take k, (m : Int) ∈ V) := fun h3 => by have := hbq.2 h3; rw [hb254] at this; cases this
                    show decide ((m : Int) ∈ r.xs) = true ↔ (m : Int) ∈ y.H.xs ∨ (m : Int) ∈ y.O.xs ∨ ∃ V ∈ (vsI y.sn).take (k + 1), (m : Int) ∈ V
                    rw [List.take_add_one, vsI_at hr, decide_eq_true_iff]
                    constructor
                    ·
                      intro h2
                      exact .inr (.inr ⟨r.xs, by simp, h2⟩)
                    ·
                      rintro (h2 | h2 | ⟨V, hV, h2⟩)
                      ·
                        exact absurd (.inl h2) h1
                      ·
                        exact absurd (.inr (.inl h2)) h1
                      ·
                        rcases List.mem_append.1 hV with h3 | h3
                        ·
                          exact absurd (.inr (.inr ⟨V, h3, h2⟩)) h1
                        ·
                          rw [show V = r.xs by simpa using h3] at h2
                          exact h2)⟩, hX, hA⟩ (by show y.sn.length - (k + 1) < y.sn.length - k; omega)
                | exact WX.loop_next (m + 1) ⟨rfl, rfl, rfl, rfl, rfl, rfl, rfl, rfl, rfl, rfl, trivial⟩ ⟨by omega, hX, hA⟩ (by omega)
                | exact WX.loop_next (i + 1, t + 1, n2, y) ⟨rfl, rfl, rfl, rfl, rfl, rfl, rfl, rfl, rfl, trivial⟩ ⟨⟨by show i + 1 ≤ _; omega, by show i + 1 ≤ _; omega⟩, hM2, hX, hA⟩ (by show 80 - (i + 1) < 80 - i; omega)
                | exact WX.loop_next (i + 1, t + 1, n, x) ⟨rfl, rfl, rfl, rfl, rfl, rfl, rfl, rfl, rfl, trivial⟩ ⟨⟨by show i + 1 ≤ _; omega, by show i + 1 ≤ _; omega⟩, hM.skip, hX, hA⟩ (by show 80 - (i + 1) < 80 - i; omega)
      ·
        refine WL.pickT rfl rfl rfl (WL.nil (WX.then_normal (WC.cond_false rfl (WC.exit (WX.then_exit (WX.then_exit (WX.block_here (?_))))))))
        refine WX.then_normal (WC.seq (WC.region (WL.assign rfl rfl (WL.nil (WX.then_normal (WC.ret (?_)))))))
        refine WX.ret1 (.inl rfl) Try.results5 rfl ?_
        exact ⟨_, rfl, rfl, hX.hw⟩
    ·
      refine WL.move rfl rfl (WL.pass rfl rfl rfl rfl (WL.pass rfl rfl rfl rfl (WL.pickF rfl rfl rfl (WL.nil (WX.then_normal (WC.cond_false rfl (WC.exit (?_))))))))
      refine WX.then_exit (WX.then_exit (WX.block_here (WX.then_normal (WC.seq (WC.region (WL.assign rfl rfl (WL.nil (?_))))))))
      refine WX.then_normal (WC.ret (?_))
      refine WX.ret1 (.inl rfl) Try.results5 rfl ?_
      exact ⟨_, rfl, rfl, hX.hw⟩
end Go.Proofs.Ytgmkoieemmglpaa
