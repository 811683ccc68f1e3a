import Derived.Test.YtggecdldnpildaaGreatQArrayTails11
namespace Go.Proofs.YtggecdldnpildaaGreat
open Go.RowKit Go.HL
set_option maxRecDepth 100000

/-! a repair of a block whose last cell alone is wrong -/
theorem compact1_calls {w : World} (ao : Option Addr) (n c : Nat) (hn : n < 2) :
    Calls Tryz.prog 62 [.slice ao n c].toArray w (Ret fun v w' => v = .slice ao n c ∧ Chg Nob w w') := by
  have hw := Chg.refl Nob w
  refine Calls.of_WC Tryz.func62 rfl Tryz.ntmps62 (by simp) ?_
  refine WC.seq (WC.region (WL.assign rfl rfl (WL.nil (WX.then_normal (WC.seq (WC.seq (WC.region (?_))))))))
  refine WL.move rfl rfl (WL.len Tryz.underlying39 rfl rfl (?_))
  refine WL.lssT rfl rfl rfl ((by omega)) ?_
  refine WL.nil (WX.then_normal (WC.cond_true rfl (WC.seq (WC.region (WL.move rfl rfl (WL.assign rfl rfl (WL.nil (?_))))))))
  refine WX.then_normal (WC.ret (WX.then_ret (?_)))
  refine WX.ret1 (.inl rfl) Tryz.results62 rfl ?_
  exact ⟨_, rfl, rfl, hw⟩
set_option maxHeartbeats 4000000 in
theorem arepair_last {A : Nat → Prop} {w : World} {a R f : Nat} {s : RA} (hB : AB w a R s.dn f) (hna : ¬ A a) (h : RK A w R s) (hA : ∀ x, A x → x < w.heap.size) (hu : Up s) (h5 : 5 ≤ s.dn) (hf : f < s.sn) (addr : Nat) (b : List UInt8) (hl : 1 ≤ b.length ∧ b.length ≤ 1024)
    (ha : addr + costA s.dn (secsA b.length) ≤ s.dn * (s.sn - f)) (hn : s.waits.length ≤ 90000) (hgn : ∀ d, goneS s d = false) (hr0 : rdA s f addr b.length ⟨(sumB b).toArray⟩ = some []) (hby : bytA s f addr b.length [] = b)
    {m : Nat} (hm : m + 1 = costA s.dn (secsA b.length)) {cl : List UInt8} (hcl : (layA s.dn b)[m]? = some cl) (hne : heldS s (plN s.dn f (addr + m)) ≠ cl) (heq : ∀ j c, j < m → (layA s.dn b)[j]? = some c → heldS s (plN s.dn f (addr + j)) = c) :
    Calls Tryz.prog 29 [ptr a, vi addr, vi b.length, .string ⟨(sumB b).toArray⟩].toArray w (Ret fun v w' => (∃ ao c, v = .tuple #[.slice ao 1 c, vi 0] ∧ Row (w.heap.size ≤ ·) w' 3 ei ao c [(((addr + m) % s.dn : Nat) : Int)] ∧ RK (fun x => A x ∨ w.heap.size ≤ x) w' R (addS s (plN s.dn f (addr + m)) cl)) ∧ Chg A w w') := by
  have hw := Chg.refl Nob w
  have la := hB.lt
  have hdn := h.ok.dn
  have hsn := h.ok.sn
  have hok := h.ok
  have hR := hA R h.aR
  have hbg : bgon s addr b.length = [] := bgon_none hgn addr b.length
  have hmm : s.dn * (s.sn - f) ≤ 16 * 2000 := Nat.mul_le_mul (by omega) (by omega)
  obtain ⟨dd, hdd⟩ : ∃ dd, dd = (((addr + m) % s.dn : Nat) : Int) := ⟨_, rfl⟩
  obtain ⟨s9, hs9⟩ : ∃ s9, s9 = addS s (plN s.dn f (addr + m)) cl := ⟨_, rfl⟩
  rw [← hdd, ← hs9]
  refine Calls.of_WC Tryz.func29 rfl Tryz.ntmps29 (by simp) ?_
  refine WC.seq (WC.region (WL.assign rfl rfl (WL.assign rfl rfl (WL.nil (WX.then_normal (WC.seq (WC.region (?_))))))))
  refine WL.move rfl rfl (WL.move rfl rfl (WL.move rfl rfl (WL.move rfl rfl (?_))))
  refine WL.call eg_19 rfl rfl (aread_good hB h hu h5 hf addr b.length hl ha ⟨(sumB b).toArray⟩ (sum32 b) (by rw [hbg]; decide)) ?_
  rintro v w1 ⟨-, hsome, k1⟩
  have hx := hsome [] hr0
  rw [hbg, List.nil_append, show srt ([] : List Int) = [] from srt_id List.Pairwise.nil, hby] at hx
  obtain ⟨fa, fc, ba, bc, rfl, hb, -, -⟩ := hx
  clear hsome
  have zs_k1 := k1.size
  replace hB := hB.pure k1
  replace h := h.pure k1
  replace hw := hw.pure k1
  refine WL.move rfl rfl (WL.extract rfl rfl rfl (WL.extract rfl rfl rfl (WL.extract rfl rfl rfl (WL.assign rfl rfl (WL.assign rfl rfl (WL.assign rfl rfl (WL.nil (?_))))))))
  refine WX.then_normal (WC.seq (WC.seq (WC.region (WL.move rfl rfl (?_)))))
  refine WL.neqF rfl rfl rfl (by rfl) ?_
  refine WL.nil (WX.then_normal (WC.cond_false rfl (WC.skip (WX.then_normal (WC.seq (WC.region (WL.move rfl rfl (?_))))))))
  refine WL.move rfl rfl (?_)
  refine WL.call eg_41 rfl rfl (layout_calls hB ⟨h5, hdn.2⟩ hb.rsl hl) ?_
  rintro v w3 ⟨⟨a3, c3, rs, rfl, hK, hx⟩, k3⟩
  have zw1 := hw.size
  have zs_k3 := k3.size
  replace hB := hB.pure k3
  replace h := h.pure k3
  replace hw := hw.pure k3
  refine WL.move rfl rfl (WL.extract rfl rfl rfl (WL.extract rfl rfl rfl (WL.assign rfl rfl (WL.assign rfl rfl (WL.nil (WX.then_normal (WC.seq (?_))))))))
  refine WC.seq (WC.region (WL.move rfl rfl (?_)))
  refine WL.neqF rfl rfl rfl (by rfl) ?_
  refine WL.nil (WX.then_normal (WC.cond_false rfl (WC.skip (WX.then_normal (WC.seq (WC.region (WL.assign rfl rfl (?_))))))))
  refine WL.nil (WX.then_normal (WC.seq (WC.seq (WC.region (WL.move rfl rfl (WL.len Tryz.underlying87 rfl rfl (WL.move rfl rfl (?_))))))))
  refine WL.nil (WX.then_normal (WC.block (?_)))
  have zw3 := hw.size
  obtain ⟨n0, hn0⟩ : ∃ n0, n0 = w3.heap.size := ⟨_, rfl⟩
  obtain ⟨cells, hcells⟩ : ∃ cells, cells = layA s.dn b := ⟨_, rfl⟩
  have hcl2 : cells.length = m + 1 := by rw [hcells, layA_len _ _ (by omega), hm]
  have hrl : rs.length = cells.length := by rw [hcells, ← hx]; simp
  have h20 := (costA_is ⟨h5, hdn.2⟩ (secsA_le hl.2)).2
  rw [← hcells] at hx hcl heq
  have hK0 : KR (fun x => w.heap.size ≤ x ∧ x < n0) w3 26 5 a3 c3 rs := (hK.mono (S' := fun x => w.heap.size ≤ x) (fun x hx => by have h9 : _ ≤ x := hx; show w.heap.size ≤ x; omega)).low.mono (fun x hx => ⟨hx.1, by rw [hn0]; exact hx.2⟩)
  have hW0 : Row (fun x => n0 ≤ x) w3 3 ei none 0 [] := Row.nil _ _ _ _
  obtain ⟨T, hT⟩ : ∃ T : Nat → RA, T = fun i => if i < m + 1 then s else s9 := ⟨_, rfl⟩
  obtain ⟨D, hD⟩ : ∃ D : Nat → List Int, D = fun i => if i < m + 1 then [] else [dd] := ⟨_, rfl⟩
  have hT0 : ∀ i, i < m + 1 → T i = s := fun i hi => by rw [hT]; exact if_pos hi
  have hD0 : ∀ i, i < m + 1 → D i = [] := fun i hi => by rw [hD]; exact if_pos hi
  have hT1 : T (m + 1) = s9 := by rw [hT]; exact if_neg (Nat.lt_irrefl _)
  have hD1 : D (m + 1) = [dd] := by rw [hD]; exact if_neg (Nat.lt_irrefl _)
  clear hT hD
  have h0 : RK (fun x => (A x ∨ n0 ≤ x) ∧ ¬ Eqb (none : Option Addr) x) w3 R (T 0) := by rw [hT0 0 (by omega)]; exact h.mono (fun x hx => ⟨.inl hx, fun h => by obtain ⟨_, e, _⟩ := h; cases e⟩)
  have hW1 : Row (fun x => n0 ≤ x) w3 3 ei none 0 (D 0) := by rw [hD0 0 (by omega)]; exact hW0
  refine WC.loop (σ := Nat × Option Addr × Nat) (fun q => [(0, ptr a), (1, vi addr), (14, .slice q.2.1 (D q.1).length q.2.2), (43, .slice a3 rs.length c3), (44, vi rs.length), (45, vi (q.1 : Int))]) (fun q w' => q.1 ≤ rs.length ∧ AB w' a R s.dn f ∧ KR (fun x => w.heap.size ≤ x ∧ x < n0) w' 26 5 a3 c3 rs ∧ (q.1 < m + 1 → q.2 = (none, 0)) ∧ Row (fun x => n0 ≤ x) w' 3 ei q.2.1 q.2.2 (D q.1) ∧ RK (fun x => (A x ∨ n0 ≤ x) ∧ ¬ Eqb q.2.1 x) w' R (T q.1) ∧ Chg A w w' ∧ n0 ≤ w'.heap.size) (fun q => rs.length - q.1) (0, none, 0) ⟨rfl, rfl, by rw [hD0 0 (by omega)]; rfl, rfl, rfl, rfl, trivial⟩ ⟨Nat.zero_le _, hB, hK0, fun _ => rfl, hW1, h0, hw.mono (fun x _ hx => hx.elim), by omega⟩ ?_
  clear hB h hw hK hK0 hW0 hW1 h0
  rintro ⟨i, wa, wc⟩ w4 ⟨hi, hB, hK, hnil, hW, h, hw, zn⟩
  simp only at hi hnil hW h
  dsimp only
  refine WC.seq (WC.region (?_))
  refine WL.lss? rfl rfl rfl (fun h46 => ?_) (fun h46 => ?_)
  ·
    refine WL.nil (WX.then_normal (WC.seq (WC.cond_true rfl (WC.skip (WX.then_normal (WC.seq (WC.block (?_))))))))
    refine WC.seq (WC.region (WL.move rfl rfl (?_)))
    obtain ⟨r, hr⟩ : ∃ r, rs[i]? = some r := ⟨_, List.getElem?_eq_getElem (by omega)⟩
    have hrc : cells[i]? = some r.xs := by rw [← hx, List.getElem?_map, hr]; rfl
    have hr128 : r.xs.length = 128 := layA_all s.dn b (by omega) _ (hcells ▸ List.mem_of_getElem? hrc)
    have him : i < m + 1 := by omega
    rw [hT0 i him] at h
    have hnl := hnil him
    injection hnl with hnl1 hnl2
    subst hnl1
    subst hnl2
    replace h := h.mono (A' := fun x => A x ∨ n0 ≤ x) (fun x hx => hx.1)
    rw [hD0 i him] at hW ⊢
    refine WL.indexT (e := erow) Tryz.underlying87 Tryz.sizeOf26 hK.outer.rsl rfl rfl ⟨hr, rfl⟩ rfl ?_
    intro bb oo hcc
    refine WL.load Tryz.isAgg26 rfl (hcc 0 _ rfl) rfl ?_
    refine WL.assign rfl rfl (WL.assign rfl rfl (WL.nil (WX.then_normal (WC.seq (WC.region (WL.move rfl rfl (WL.move rfl rfl (?_))))))))
    refine WL.move rfl rfl (?_)
    refine WL.add64 rfl rfl (by constructor <;> omega) rfl ?_
    rw [show ((addr : Int) + (i : Int)) = ((addr + i : Nat) : Int) from by omega]
    refine WL.call eg_60 rfl rfl (place_calls hB ⟨h5, hdn.2⟩ (by omega) (addr + i) (by omega)) ?_
    rintro v w5 ⟨rfl, k5⟩
    have zs_k5 := k5.size
    replace hB := hB.pure k5
    replace hK := hK.pure k5
    replace hW := hW.pure k5
    replace h := h.pure k5
    replace hw := hw.pure k5
    refine WL.move rfl rfl (WL.extract rfl rfl rfl (WL.extract rfl rfl rfl (WL.assign rfl rfl (WL.assign rfl rfl (WL.nil (WX.then_normal (WC.seq (?_))))))))
    refine WC.region (WL.move rfl rfl (WL.nilCheck rfl rfl (WL.fieldAddr (fld_81_0) rfl rfl (WL.loadB Tryz.isAgg27 hB rfl rfl rfl (WL.move rfl rfl (WL.move rfl rfl (?_)))))))
    obtain ⟨hi1, hi2⟩ := plN_in (s := s) (f := f) (cell := addr + i) h5 (by omega)
    refine WL.call eg_30 rfl rfl (ReadU h hu hi1 (hgn _)) ?_
    rintro v w6 ⟨⟨rd, rfl, hrx, hrd⟩, k6⟩
    rw [show ((((addr + i) % s.dn : Nat) : Int), ((f + (addr + i) / s.dn : Nat) : Int)) = plN s.dn f (addr + i) from rfl] at hrx
    have zs_k6 := k6.size
    replace hB := hB.pure k6
    replace hK := hK.pure k6
    replace hW := hW.pure k6
    replace h := h.pure k6
    replace hw := hw.pure k6
    refine WL.move rfl rfl (WL.extract rfl rfl rfl (WL.extract rfl rfl rfl (WL.assign rfl rfl (WL.assign rfl rfl (WL.nil (WX.then_normal (WC.seq (?_))))))))
    refine WC.seq (WC.region (WL.move rfl rfl (?_)))
    refine WL.eqlF rfl rfl rfl (by omega) ?_
    refine WL.move rfl rfl (WL.want rfl rfl rfl (WL.move rfl rfl (WL.want rfl rfl rfl (?_))))
    refine WL.eqlT rfl rfl rfl (by rfl) ?_
    refine WL.want rfl rfl rfl (WL.move rfl rfl (WL.want rfl rfl rfl (WL.move rfl rfl (WL.want rfl rfl rfl (WL.move rfl rfl (WL.want rfl rfl rfl (?_)))))))
    have hri := (hK.inner r (List.mem_of_getElem? hr)).rsl
    refine WL.call eg_61 rfl rfl (beq0_calls hrd hri) ?_
    rintro v w7 ⟨rfl, k7⟩
    have zs_k7 := k7.size
    replace hB := hB.pure k7
    replace hK := hK.pure k7
    replace hW := hW.pure k7
    replace h := h.pure k7
    replace hw := hw.pure k7
    replace hrd := hrd.pure k7
    rcases Nat.lt_or_ge i m with hlt | hge
    ·
      rw [decide_eq_true (hrx.trans (heq i _ hlt hrc))]
      refine WL.want rfl rfl rfl (WL.pickT rfl rfl rfl (WL.pickF rfl rfl rfl (WL.nil (WX.then_normal (WC.cond_true rfl (WC.exit (WX.then_exit (?_))))))))
      refine WX.block_here (WX.then_normal (WC.region (WL.add64 rfl rfl (by omega) rfl (WL.move rfl rfl (WL.nil (?_))))))
      exact WX.loop_next (i + 1, none, 0) ⟨rfl, rfl, by rw [hD0 (i + 1) (by omega)]; rfl, rfl, rfl, rfl, trivial⟩ ⟨by show i + 1 ≤ rs.length; omega, hB, hK, fun _ => rfl, by rw [hD0 (i + 1) (by omega)]; exact Row.nil _ _ _ _, by rw [hT0 (i + 1) (by omega)]; exact h.mono (fun x hx => ⟨hx, fun h => by obtain ⟨_, e, _⟩ := h; cases e⟩), hw, by omega⟩ (by show rs.length - (i + 1) < rs.length - i; omega)
    ·
      have e9 : i = m := by omega
      have hrcl : r.xs = cl := by
        rw [e9, hcl] at hrc
        injection hrc with hrc
        exact hrc.symm
      rw [decide_eq_false (fun e => hne (by rw [← e9, ← hrx, e, hrcl]))]
      refine WL.want rfl rfl rfl (WL.pickT rfl rfl rfl (WL.pickF rfl rfl rfl (WL.nil (WX.then_normal (WC.cond_false rfl (WC.skip (WX.then_normal (?_))))))))
      refine WC.seq (WC.seq (WC.region (WL.move rfl rfl (?_))))
      refine WL.neqF rfl rfl rfl (by rfl) ?_
      refine WL.nil (WX.then_normal (WC.cond_false rfl (WC.skip (WX.then_normal (WC.seq (WC.seq (WC.region (?_))))))))
      refine WL.move rfl rfl (WL.move rfl rfl (WL.move rfl rfl (?_)))
      refine WL.add64 rfl rfl (by constructor <;> omega) rfl ?_
      rw [show ((addr : Int) + (i : Int)) = ((addr + i : Nat) : Int) from by omega]
      refine WL.move rfl rfl (?_)
      have hri : RSl (fun x => w.heap.size ≤ x ∧ x < n0) _ eb r.ao r.cap r.xs := (hK.inner r (List.mem_of_getElem? hr)).rsl
      refine WL.call eg_42 rfl rfl (put_calls (s := s) hB h hu h5 hf (addr + i) (by omega) hri (fun x h1 h2 => by have := h1.1; omega) hr128 (by omega)) ?_
      rintro v w8 ⟨rfl, h8, k8⟩
      have z8 := k8.size
      replace hB := hB.chg k8 (fun hm => hm.elim hna (fun h9 => by omega))
      replace hK := hK.chg k8 (fun x h1 h2 h3 => h3.elim (fun h9 => by have := hA x h9; have := h2.1; omega) (fun h9 => by have := h2.2; omega))
      replace hw := hw.chg k8 (fun x h1 h2 => h2.elim id (fun h9 => by omega))
      have e5 : putS s f (addr + i) r.xs = s9 := by rw [putS, if_neg (by rw [hgn]; decide), hrcl, hs9, e9]
      rw [e5] at h8
      replace h8 := h8.mono (A' := fun x => A x ∨ n0 ≤ x) (fun x hx => hx.elim id (fun h9 => .inr (by omega)))
      refine WL.assign rfl rfl (WL.nil (WX.then_normal (WC.seq (WC.region (WL.move rfl rfl (?_))))))
      refine WL.neqF rfl rfl rfl (by rfl) ?_
      refine WL.nil (WX.then_normal (WC.cond_false rfl (WC.skip (WX.then_normal (WC.region (WL.move rfl rfl (WL.move rfl rfl (?_))))))))
      refine WL.build (e := ei) [(((addr + i) % s.dn : Nat) : Int)] Tryz.underlying39 Tryz.sizeOf3 Tryz.zeroValue3 rfl rfl rfl (by simp [Value.cells] <;> rfl) (by decide) rfl ?_
      intro a_q93 w_q93 q93 l_q93 z_q93 k_q93
      have zs_k_q93 := k_q93.size
      replace hB := hB.pure k_q93
      replace hK := hK.pure k_q93
      replace hw := hw.pure k_q93
      replace h8 := h8.pure k_q93
      have hW0 : Row (fun x => w_q93.heap.size ≤ x) w_q93 3 ei none 0 [] := Row.nil _ _ _ _
      replace h8 := h8.old
      refine WL.append (e := ei) info_3 rfl Tryz.underlying39 rfl rfl hW0 (q93.rsl.src Tryz.underlying39) (by (try simp only [List.length_append, List.length_cons, List.length_nil] at *); omega) (by intro b hb; first | (apply hS; omega) | ((try dsimp only); omega)) rfl ?_
      intro a_q94 c_q94 w_q94 q94 g_q94 n_q94
      have z_q94 := g_q94.chg.size
      have zs_g_q94_chg := g_q94.chg.size
      replace hB := hB.chg g_q94.chg (by intro h1; exfalso; have h4 := h1.2; (try dsimp only at *); omega)
      replace hK := hK.chg g_q94.chg (by intros; exfalso; (try dsimp only at *); omega)
      replace hw := hw.chg g_q94.chg (by intros; exfalso; (try dsimp only at *); omega)
      replace h8 := h8.chg g_q94.chg (by intros; exfalso; (try dsimp only at *); omega)
      refine WL.assign rfl rfl (WL.nil (WX.block_normal (WX.then_normal (WC.region (WL.add64 rfl rfl (by omega) rfl (WL.move rfl rfl (WL.nil (?_))))))))
      exact WX.loop_next (i + 1, a_q94, c_q94) ⟨rfl, rfl, by rw [e9, hD1]; rfl, rfl, rfl, rfl, trivial⟩ ⟨by show i + 1 ≤ rs.length; omega, hB, hK, fun h9 => by exfalso; have h9' : i + 1 < m + 1 := h9; omega, by rw [e9, hD1, hdd, ← e9]; exact q94.mono (fun x hx => by have h9' : _ ≤ x := hx; show n0 ≤ x; omega), by rw [e9, hT1]; exact h8.mono (fun x hx => ⟨hx.1, fun h => by obtain ⟨a9, e, e2⟩ := h; have h9' : _ ≤ _ := q94.at_ a9 e; have := hx.2; omega⟩), hw, by omega⟩ (by show rs.length - (i + 1) < rs.length - i; omega)
  ·
    refine WL.nil (WX.then_normal (WC.seq (WC.cond_false rfl (WC.exit (WX.then_exit (WX.then_exit (WX.block_here (?_))))))))
    refine WX.then_normal (WC.seq (WC.region (WL.move rfl rfl (?_))))
    have hil : i = m + 1 := by omega
    rw [hil, hT1] at h
    rw [hil, hD1] at hW ⊢
    refine WL.call eg_51 rfl rfl (sort_calls hW (by simp)) ?_
    rintro v w20 ⟨rfl, hW2, k20⟩
    rw [show srt [dd] = [dd] from srt_id (List.pairwise_singleton _ _)] at hW2
    replace h := h.chg k20 (fun y _ h1 h2 => h1.2 h2)
    replace hw := hw.chg k20 (fun y h1 h2 => by obtain ⟨a9, e, e2⟩ := h2; have h9' : n0 ≤ _ := hW.at_ a9 e; omega)
    refine WL.nil (WX.then_normal (WC.seq (WC.region (WL.move rfl rfl (?_)))))
    refine WL.call eg_62 rfl rfl (compact1_calls wa 1 wc (by decide)) ?_
    rintro v w21 ⟨rfl, k21⟩
    have zs_k21 := k21.size
    replace h := h.pure k21
    replace hw := hw.pure k21
    replace hW2 := hW2.pure k21
    refine WL.assign rfl rfl (WL.assign rfl rfl (WL.nil (WX.then_normal (WC.ret (?_)))))
    refine WX.ret2 (.inl rfl) Tryz.results29 rfl rfl ?_
    exact ⟨_, rfl, ⟨wa, wc, rfl, hW2.mono (fun x hx => by have h9 : n0 ≤ x := hx; show w.heap.size ≤ x; omega), h.mono (fun x hx => hx.1.imp id (fun h9 => by omega))⟩, hw⟩
end Go.Proofs.YtggecdldnpildaaGreat
namespace Go.HL
theorem sumR_shift {n : Nat} (hn : 4 ≤ n) (a b l : Nat) : sumR (rowsA n a l) = sumR (rowsA n b l) := by rw [← layR_len (rowsA n a l) [], layR_shift hn l a b, layR_len]
theorem layR_last {n : Nat} (hn : 4 ≤ n) : ∀ (l a : Nat) (p : List UInt8), 1 ≤ l → (layR (rowsA n a l) p)[sumR (rowsA n a l) - 1]? = some ((p.drop (128 * (l - 1))).take 128) := by
  intro l
  induction l using Nat.strongRecOn with
  | _ l ih =>
    intro a p hl
    obtain ⟨k, hk⟩ : ∃ k, k = min l (n - 3) := ⟨_, rfl⟩
    have hk1 : 1 ≤ k ∧ k ≤ l := by omega
    rw [rowsA_cons hn hl, ← hk, sumR_cons, layR]
    dsimp only
    have hll : (three (chunksA k p) 128 k ++ chunksA k p).length = k + 3 := by rw [List.length_append, three_len, chunksA_len]; omega
    rcases Nat.eq_zero_or_pos (l - k) with h0 | h0
    · have e0 : sumR (rowsA n (a + k + 3) (l - k)) = 0 := by rw [h0]; rfl
      rw [e0, List.append_assoc, List.getElem?_append_right (by rw [three_len]; omega), three_len, show k + 3 + 0 - 1 - 3 = k - 1 from by omega, List.getElem?_append_left (by rw [chunksA_len]; omega), chunksA_at _ _ _ (by omega), show k - 1 = l - 1 from by omega]
    · have h9 : 1 ≤ sumR (rowsA n (a + k + 3) (l - k)) := by
        rw [rowsA_cons hn h0, sumR_cons]
        dsimp only
        omega
      rw [List.getElem?_append_right (by omega), hll, show k + 3 + sumR (rowsA n (a + k + 3) (l - k)) - 1 - (k + 3) = sumR (rowsA n (a + k + 3) (l - k)) - 1 from by omega, ih (l - k) (by omega) _ _ h0, List.drop_drop, show 128 * k + 128 * (l - k - 1) = 128 * (l - 1) from by omega]
end Go.HL
namespace Go.Proofs.YtggecdldnpildaaGreat
open Go.RowKit Go.HL
set_option maxRecDepth 100000

/-! a byte behind a block's end: the law -/
theorem tails_plain {s s1 : RA} (hok : s.ok) (h5 : 5 ≤ s.dn) {addr m off : Nat} {b : List UInt8} (hl : 1 ≤ b.length ∧ b.length ≤ 1024) (hz : b.length % 128 ≠ 0) (hI : Intact s 2 addr (layA s.dn b) []) (hg : ∀ d, goneS s d = false) (hm : m + 1 = costA s.dn (secsA b.length)) (ho : b.length % 128 ≤ off ∧ off < 128) (e1 : s1 = rotS s (plN s.dn 2 (addr + m)) (off : Int)) :
    ∃ cl, (layA s.dn b)[m]? = some cl ∧ cl[off]? = some 0 ∧ heldS s1 (plN s.dn 2 (addr + m)) ≠ cl ∧ (∀ j c, j < m → (layA s.dn b)[j]? = some c → heldS s1 (plN s.dn 2 (addr + j)) = c) ∧ bytA s1 2 addr b.length [] = b ∧ rdA s1 2 addr b.length ⟨(sumB b).toArray⟩ = some [] := by
  have hd1 : s1.dn = s.dn := by rw [e1, rotS_dn]
  have hg1 : ∀ d, goneS s1 d = false := fun d => by rw [e1, rotS_gone]; exact hg d
  have hok1 : s1.ok := by rw [e1]; exact rotS_ok hok _ _
  have hheld : ∀ q, heldS s1 q = if q = plN s.dn 2 (addr + m) then rotB (heldS s (plN s.dn 2 (addr + m))) (off : Int) else heldS s q := fun q => by rw [e1, rotS_held]
  clear e1
  have hall : ∀ j c, (layA s.dn b)[j]? = some c → heldS s (plN s.dn 2 (addr + j)) = c := fun j c hc => (hI j c hc (by simp)).2
  have hsu := secsA_up (size := b.length)
  have hsp := secsA_pos hl.1
  have hpl : (padA b).length = b.length + 128 := by simp [padA]
  obtain ⟨l, hll⟩ : ∃ l, l = secsA b.length := ⟨_, rfl⟩
  have hlay : layA s.dn b = layR (rowsA s.dn addr l) (padA b) := by rw [layA, ← hll]; exact layR_shift (by omega) _ _ _ _
  have hsum : sumR (rowsA s.dn addr l) = m + 1 := by rw [hm, ← hll]; exact sumR_shift (by omega) _ _ _
  rw [← hll] at hsu hsp
  have hlast := layR_last (n := s.dn) (by omega) l addr (padA b) hsp
  rw [hsum, Nat.add_sub_cancel, ← hlay] at hlast
  have hcl := hall m _ hlast
  have hoff : ((off : Int) % 128).toNat = off := by omega
  have hrx : rotX (off : Int) = 1 := by
    rw [rotX, show (1 : Int) + (off : Int) / 128 % 255 = 1 from by omega]
    rfl
  obtain ⟨cl, hc⟩ : ∃ cl, cl = ((padA b).drop (128 * (l - 1))).take 128 := ⟨_, rfl⟩
  rw [← hc] at hlast hcl
  have hcll : cl.length = 128 := by rw [hc, List.length_take, List.length_drop]; omega
  have hz0 : cl[off]? = some 0 := by
    rw [hc, List.getElem?_take, if_pos ho.2, List.getElem?_drop, padA, List.getElem?_append_right (by omega), List.getElem?_replicate, if_pos (by omega)]
  have hrb : rotB cl (off : Int) = cl.set off 1 := by
    rw [rotB, hoff, hrx, List.getD_eq_getElem?_getD, hz0]
    rfl
  rw [hcl, hrb] at hheld
  refine ⟨cl, hlast, hz0, ?_, fun j c hj hcj => ?_, ?_⟩
  · rw [hheld, if_pos rfl]
    intro e
    have := congrArg (fun l : List UInt8 => l[off]?) e
    simp only [List.getElem?_set, hz0] at this
    rw [if_pos trivial, if_pos (by omega)] at this
    injection this with this
    exact absurd this (by decide)
  · rw [hheld, if_neg (fun e => by have := plN_inj e; omega)]
    exact hall j c hcj
  · have hD := tail_rows (s := s) (s1 := s1) (by omega) hd1 (f := 2) (L := addr + m) (off := off) (X := 1) ho.2 (by rw [hheld, if_pos rfl, hcl]) (fun c hne => by rw [hheld, if_neg (fun e => hne (plN_inj e))]) l addr (padA b) hsp (by omega) (by omega) (by rw [← hlay]; exact hall)
    have hda := datA_nil hok1 hg1 (rowsA s.dn addr l) _ (fun r hr => by
      have := (rowsA_mem (n := s.dn) (by omega) l addr r hr).1
      rw [hd1]
      omega) hD
    have hby : bytA s1 2 addr b.length [] = b := by
      rw [bytA, strA, hd1, ← hll, hda, datR_rows (by omega), List.take_take, Nat.min_eq_left (by omega), take_set_ge (by omega), padA, List.take_append_of_le_length (Nat.le_refl _), List.take_length]
    refine ⟨hby, setsA_first (by rw [bgon_none hg1]; decide) ?_⟩
    show fitA s1 2 addr b.length _ (srt (bgon s1 addr b.length ++ [])) = true
    rw [bgon_none hg1, List.append_nil, show srt ([] : List Int) = [] from srt_id List.Pairwise.nil, fitA, hby, decide_eq_true rfl]
end Go.Proofs.YtggecdldnpildaaGreat
namespace Go.Proofs.YtggecdldnpildaaGreat
open Go.RowKit Go.HL
set_option maxRecDepth 100000

set_option maxHeartbeats 8000000 in
theorem arrayTails_calls {w : World} (x : BkV) (nn : Int) :
    Calls Tryz.prog 9 [bkval x, vi nn].toArray w (Ret fun v w' => v = .bool true ∧ Chg Nob w w') := by
  have hw := Chg.refl Nob w
  refine Calls.of_WC Tryz.func9 rfl Tryz.ntmps9 (by simp) ?_
  refine WC.seq (WC.region (?_))
  refine WL.box rfl rfl ?_
  intro gb wb hge hlt hbb kb
  have zs_kb := kb.size
  replace hw := hw.pure kb
  have hbk : Blk _ gb 47 (bkcells x) := hbb
  refine WL.assign rfl rfl (WL.nil (WX.then_normal (WC.seq (WC.seq (WC.region (?_))))))
  refine WL.call eg_20 rfl rfl (known6_calls _) ?_
  rintro v w1 ⟨rfl, k1⟩
  have zs_k1 := k1.size
  replace hw := hw.pure k1
  replace hbk := hbk.pure k1
  refine WL.not rfl rfl (WL.nil (WX.then_normal (WC.cond_false rfl (WC.skip (WX.then_normal (WC.seq (WC.region (?_))))))))
  refine WL.loadsB Tryz.isAgg47 Tryz.sizeOf47 hbk rfl (by rfl) rfl (?_)
  have zw0 := hw.size
  refine WL.call eg_22 rfl rfl (lay_calls _ x) ?_
  rintro v w2 ⟨⟨R, a, addr, n, s, rfl, hL, hBa, hR, hage⟩, k2⟩
  have zs_k2 := k2.size
  replace hw := hw.pure k2
  replace hR := hR.old
  refine WL.move rfl rfl (WL.extract rfl rfl rfl (WL.extract rfl rfl rfl (WL.extract rfl rfl rfl (WL.extract rfl rfl rfl (WL.extract rfl rfl rfl (WL.assign rfl rfl (WL.assign rfl rfl (?_))))))))
  refine WL.assign rfl rfl (WL.assign rfl rfl (WL.assign rfl rfl (WL.nil (WX.then_normal (WC.seq (WC.seq (WC.region (?_))))))))
  refine WL.move rfl rfl (?_)
  refine WL.not rfl rfl ?_
  refine WL.move rfl rfl (WL.want rfl rfl rfl (WL.move rfl rfl (WL.want rfl rfl rfl (WL.lens Tryz.underlying9 rfl rfl (WL.want rfl rfl rfl (?_))))))
  obtain ⟨dat, hdat⟩ : ∃ dat, dat = datL x.da := ⟨_, rfl⟩
  rw [← hdat] at hL ⊢
  obtain ⟨b, hb⟩ : ∃ b, b = dat.data.toList := ⟨_, rfl⟩
  have hbl : b.length = dat.size := by rw [hb, Array.length_toList]; rfl
  rw [← hb] at hL
  obtain ⟨l1, l2, l3, l4, l5, l6, l7, l8, l9⟩ := hL
  subst l1
  have h8 := secsA_le l7.2
  have hci := costA_is l3 h8
  obtain ⟨c, hc⟩ : ∃ c, c = costA s.dn (secsA b.length) := ⟨_, rfl⟩
  rw [← hc] at hci l8
  have hsp := secsA_pos l7.1
  have e7 : s.dn * (s.sn - 2) = s.dn * 7 := by rw [l2]
  obtain ⟨m, hm⟩ : ∃ m, m + 1 = c := ⟨c - 1, by omega⟩
  have zd : dat.size % 128 < 128 := Nat.mod_lt _ (by decide)
  refine WL.rem64i rfl rfl (by constructor <;> omega) rfl ?_
  rw [show ((dat.size : Int) % 128) = ((dat.size % 128 : Nat) : Int) from by omega]
  refine WL.want rfl rfl rfl (?_)
  by_cases hz : dat.size % 128 = 0
  ·
    refine WL.eqlT rfl rfl rfl ((by rw [hz]; rfl)) ?_
    refine WL.pickF rfl rfl rfl (WL.nil (WX.then_normal (WC.cond_true rfl (WC.seq (WC.region (WL.move rfl rfl (WL.assign rfl rfl (?_))))))))
    refine WL.nil (WX.then_normal (WC.ret (WX.then_ret (?_))))
    refine WX.ret1 (.inl rfl) Tryz.results9 rfl ?_
    exact ⟨_, rfl, rfl, hw⟩
  ·
    refine WL.eqlF rfl rfl rfl ((by intro e; omega)) ?_
    refine WL.pickF rfl rfl rfl (WL.nil (WX.then_normal (WC.cond_false rfl (WC.skip (WX.then_normal (WC.seq (WC.region (?_))))))))
    refine WL.move rfl rfl (WL.move rfl rfl (WL.lens Tryz.underlying9 rfl rfl (?_)))
    refine WL.call eg_15 rfl rfl (cost_good hBa l3 dat.size (by omega)) ?_
    rintro v w3 ⟨rfl, k3⟩
    rw [← hbl, ← hc]
    have zs_k3 := k3.size
    replace hw := hw.pure k3
    replace hBa := hBa.pure k3
    replace hR := hR.pure k3
    refine WL.move rfl rfl (WL.extract rfl rfl rfl (WL.extract rfl rfl rfl (WL.assign rfl rfl (WL.assign rfl rfl (WL.nil (WX.then_normal (WC.seq (?_))))))))
    refine WC.region (WL.move rfl rfl (WL.move rfl rfl (?_)))
    refine WL.add64 rfl rfl (by constructor <;> omega) rfl ?_
    refine WL.sub64 rfl rfl (by constructor <;> omega) rfl ?_
    rw [show (addr : Int) + (c : Int) - 1 = ((addr + m : Nat) : Int) from by omega]
    refine WL.assign rfl rfl (WL.nil (WX.then_normal (WC.seq (?_))))
    obtain ⟨q, hq⟩ : ∃ q, q = (addr + m) / s.dn := ⟨_, rfl⟩
    obtain ⟨d, hd⟩ : ∃ d, d = (addr + m) % s.dn := ⟨_, rfl⟩
    have hpl : plN s.dn 2 (addr + m) = ((d : Int), ((2 + q : Nat) : Int)) := by rw [plN, ← hq, ← hd]
    have hq1 : q ≤ 1000000 := hq ▸ Nat.le_trans (Nat.div_le_self _ _) (by omega)
    refine WC.draw (Nob) [0, 1, 2, 3, 4, 5, 6, 7, 8, 9, 10] [] mixed rfl rfl (fun wd_1 kd_1 zd_1 => ?_)
    have zs_kd_1 := kd_1.size
    replace hw := hw.pure kd_1
    replace hBa := hBa.pure kd_1
    replace hR := hR.pure kd_1
    apply DQ.step (E' := [(12, _)])
    case ho => rfl
    case hs => exact ⟨rfl, trivial⟩
    case hk => rfl
    case h1 =>
      intro wq_2 kq_2
      refine WL.move rfl rfl (?_)
      refine WL.nil ?_
      exact WX.one ⟨rfl, by exact Chg.refl _ _⟩
    apply DQ.step (E' := [(5, _)])
    case ho => rfl
    case hs => exact ⟨rfl, trivial⟩
    case hk => rfl
    case h1 =>
      intro wq_3 kq_3
      refine WL.move rfl rfl (?_)
      refine WL.nil ?_
      exact WX.one ⟨rfl, by exact Chg.refl _ _⟩
    apply DQ.step (E' := [(54, _)])
    case ho => rfl
    case hs => exact ⟨rfl, trivial⟩
    case hk => rfl
    case h1 =>
      intro wq_4 kq_4
      have zs_kq_4 := kq_4.size
      replace hw := hw.pure kq_4
      replace hBa := hBa.pure kq_4
      replace hR := hR.pure kq_4
      refine WL.call eg_25 rfl rfl (Drives_calls hR) ?_
      rintro v w5 ⟨rfl, k5⟩
      have zs_k5 := k5.size
      replace hw := hw.pure k5
      replace hBa := hBa.pure k5
      replace hR := hR.pure k5
      refine WL.nil ?_
      exact WX.one ⟨rfl, by assumption⟩
    apply DQ.step (E' := [(53, _), (55, _)])
    case ho => rfl
    case hs => exact ⟨rfl, rfl, trivial⟩
    case hk => rfl
    case h1 =>
      intro wq_5 kq_5
      refine WL.rem64i rfl rfl (by constructor <;> omega) rfl ?_
      rw [show ((addr + m : Nat) : Int) % (s.dn : Int) = (d : Int) from by rw [hd]; omega]
      refine WL.nil ?_
      exact WX.one ⟨rfl, by exact Chg.refl _ _⟩
    apply DQ.step (E' := [(12, _)])
    case ho => rfl
    case hs => exact ⟨rfl, trivial⟩
    case hk => rfl
    case h1 =>
      intro wq_6 kq_6
      refine WL.move rfl rfl (?_)
      refine WL.nil ?_
      exact WX.one ⟨rfl, by exact Chg.refl _ _⟩
    apply DQ.step (E' := [(5, _)])
    case ho => rfl
    case hs => exact ⟨rfl, trivial⟩
    case hk => rfl
    case h1 =>
      intro wq_7 kq_7
      refine WL.move rfl rfl (?_)
      refine WL.nil ?_
      exact WX.one ⟨rfl, by exact Chg.refl _ _⟩
    apply DQ.step (E' := [(58, _)])
    case ho => rfl
    case hs => exact ⟨rfl, trivial⟩
    case hk => rfl
    case h1 =>
      intro wq_8 kq_8
      have zs_kq_8 := kq_8.size
      replace hw := hw.pure kq_8
      replace hBa := hBa.pure kq_8
      replace hR := hR.pure kq_8
      refine WL.call eg_25 rfl rfl (Drives_calls hR) ?_
      rintro v w6 ⟨rfl, k6⟩
      have zs_k6 := k6.size
      replace hw := hw.pure k6
      replace hBa := hBa.pure k6
      replace hR := hR.pure k6
      refine WL.nil ?_
      exact WX.one ⟨rfl, by assumption⟩
    apply DQ.step (E' := [(57, _), (59, _)])
    case ho => rfl
    case hs => exact ⟨rfl, rfl, trivial⟩
    case hk => rfl
    case h1 =>
      intro wq_9 kq_9
      refine WL.quo64i rfl rfl (by constructor <;> omega) rfl ?_
      rw [show ((addr + m : Nat) : Int) / (s.dn : Int) = (q : Int) from by rw [hq]; omega]
      refine WL.nil ?_
      exact WX.one ⟨rfl, by exact Chg.refl _ _⟩
    apply DQ.step (E' := [(60, _)])
    case ho => rfl
    case hs => exact ⟨rfl, trivial⟩
    case hk => rfl
    case h1 =>
      intro wq_10 kq_10
      refine WL.add64 rfl rfl (by constructor <;> omega) rfl ?_
      rw [show (2 : Int) + (q : Int) = ((2 + q : Nat) : Int) from by omega]
      refine WL.nil ?_
      exact WX.one ⟨rfl, by exact Chg.refl _ _⟩
    apply DQ.step (E' := [(56, _)])
    case ho => rfl
    case hs => exact ⟨rfl, trivial⟩
    case hk => rfl
    case h1 =>
      intro wq_11 kq_11
      refine WL.assign rfl rfl (?_)
      refine WL.nil ?_
      exact WX.one ⟨rfl, by exact Chg.refl _ _⟩
    apply DQ.step (E' := [(61, _)])
    case ho => rfl
    case hs => exact ⟨rfl, trivial⟩
    case hk => rfl
    case h1 =>
      intro wq_12 kq_12
      refine WL.assign rfl rfl (?_)
      refine WL.nil ?_
      exact WX.one ⟨rfl, by exact Chg.refl _ _⟩
    refine DQ.done (fun _ => ?_)
    refine DL.done (fun we_13 ke_13 => ?_)
    have zs_ke_13 := ke_13.size
    replace hw := hw.pure ke_13
    replace hBa := hBa.pure ke_13
    replace hR := hR.pure ke_13
    refine WX.then_normal (WC.seq (WC.region (WL.move rfl rfl (WL.lens Tryz.underlying9 rfl rfl (?_)))))
    refine WL.rem64i rfl rfl (by constructor <;> omega) rfl ?_
    rw [show ((dat.size : Int) % 128) = ((dat.size % 128 : Nat) : Int) from by omega]
    refine WL.move rfl rfl (WL.c_i64_u64 Tryz.underlying3 Tryz.underlying23 rfl rfl (WL.move rfl rfl (WL.lens Tryz.underlying9 rfl rfl (?_))))
    refine WL.rem64i rfl rfl (by constructor <;> omega) rfl ?_
    rw [show ((dat.size : Int) % 128) = ((dat.size % 128 : Nat) : Int) from by omega]
    obtain ⟨t, ht⟩ : ∃ t, t = 128 - dat.size % 128 := ⟨_, rfl⟩
    have hB64 : (B64 (t : Int)).toNat = t := B64_nat (by omega)
    obtain ⟨u, hu⟩ : ∃ u, u = (B64 nn % B64 (t : Int)).toNat := ⟨_, rfl⟩
    have hut : u < t := by rw [hu, UInt64.toNat_mod, hB64]; exact Nat.mod_lt _ (by omega)
    refine WL.sub64 rfl rfl (by constructor <;> omega) rfl ?_
    rw [show (128 : Int) - ((dat.size % 128 : Nat) : Int) = (t : Int) from by omega]
    refine WL.c_i64_u64 Tryz.underlying3 Tryz.underlying23 rfl rfl (?_)
    refine WL.num rfl rfl (n_rem64 _ _ _ _ (by rw [hB64]; omega)) rfl ?_
    refine WL.c_u64_i64s (n := u) Tryz.underlying23 Tryz.underlying3 rfl ⟨hu.symm, by omega⟩ rfl ?_
    obtain ⟨off, hoff⟩ : ∃ off, off = dat.size % 128 + u := ⟨_, rfl⟩
    refine WL.add64 rfl rfl (by constructor <;> omega) rfl ?_
    rw [show ((dat.size % 128 : Nat) : Int) + (u : Int) = (off : Int) from by omega]
    refine WL.assign rfl rfl (WL.nil (WX.then_normal (WC.seq (WC.seq (WC.region (WL.move rfl rfl (?_)))))))
    refine WL.neqF rfl rfl rfl (by rfl) ?_
    refine WL.move rfl rfl (WL.want rfl rfl rfl (WL.move rfl rfl (WL.want rfl rfl rfl (WL.move rfl rfl (WL.want rfl rfl rfl (WL.move rfl rfl (WL.want rfl rfl rfl (?_))))))))
    refine WL.move rfl rfl (WL.want rfl rfl rfl (?_))
    obtain ⟨hi1, hi2⟩ := plN_in (s := s) (f := 2) (cell := addr + m) (by omega) (by rw [e7]; omega)
    rw [← hd, ← hq] at hi1
    have hE : rotE s (d : Int) ((2 + q : Nat) : Int) (off : Int) = 0 := by
      rw [rotE, if_neg (fun h => h.elim (fun h => h hi1) (fun h => by omega)), if_neg (by rw [l5]; decide)]
    obtain ⟨s1, es1⟩ : ∃ s1, s1 = rotS s (plN s.dn 2 (addr + m)) (off : Int) := ⟨_, rfl⟩
    obtain ⟨cl, t1, t2, t3, t4, t5, t6⟩ := tails_plain hR.ok (by omega) l7 (by rw [hbl]; exact hz) l9 l5 (by rw [hm, hc]) (off := off) (by rw [hbl]; omega) es1
    have zw6 := hw.size
    have la := hBa.lt
    refine WL.call eg_28 rfl rfl (Rot_calls hR (d : Int) ((2 + q : Nat) : Int) (off : Int) (by omega)) ?_
    rintro v w7 ⟨rfl, hR7, k7⟩
    rw [hE] at hR7 ⊢
    rw [if_pos rfl, ← hpl, ← es1] at hR7
    have z7 := k7.size
    replace hBa := hBa.chg k7 (fun h => h.1.2 rfl)
    replace hw := hw.chg k7 (fun y h1 h2 => by have := h2.1.1; omega)
    have d1 : s1.dn = s.dn := by rw [es1, rotS_dn]
    have n1 : s1.sn = 9 := by rw [es1, rotS_sn, l2]
    have u1 : Up s1 := by rw [es1]; exact rotS_up l4 _ _
    have g1 : ∀ d, goneS s1 d = false := fun d => by rw [es1, rotS_gone]; exact l5 d
    have wl1 : s1.waits.length = 0 := by rw [es1, rotS_len, l6]
    have hi3 : inS s1 (d : Int) ((2 + q : Nat) : Int) := ⟨hi1.1, by rw [d1]; exact hi1.2.1, hi1.2.2.1, by rw [n1, ← l2]; exact hi1.2.2.2⟩
    rw [← d1] at t1 t3 t4 hpl
    clear es1
    replace hR7 := hR7.old
    have hna7 : ¬ (((w1.heap.size ≤ a ∧ a ≠ a) ∧ a < w2.heap.size ∨ we_13.heap.size ≤ a) ∧ a < w7.heap.size) := fun h => by rcases h.1 with h | h <;> omega
    refine WL.want rfl rfl rfl (?_)
    refine WL.neqF rfl rfl rfl (by rfl) ?_
    refine WL.pickF rfl rfl rfl (WL.nil (WX.then_normal (WC.cond_false rfl (WC.skip (WX.then_normal (WC.seq (WC.region (?_))))))))
    refine WL.move rfl rfl (WL.move rfl rfl (WL.move rfl rfl (WL.lens Tryz.underlying9 rfl rfl (WL.move rfl rfl (?_)))))
    refine WL.call eg_24 rfl rfl (sum6_calls _ dat (by omega)) ?_
    rintro v w8 ⟨rfl, k8⟩
    rw [← hb]
    have zs_k8 := k8.size
    replace hw := hw.pure k8
    replace hBa := hBa.pure k8
    replace hR7 := hR7.pure k8
    have hBs : AB w8 a R s1.dn 2 := by rw [d1]; exact hBa
    have hcl := aread_good hBs hR7 u1 (by omega) (by omega) addr b.length l7 (by rw [d1, n1, ← hc]; omega) ⟨(sumB b).toArray⟩ (sum32 b) (by rw [bgon_none g1]; decide)
    rw [show ((b.length : Nat) : Int) = (dat.size : Int) from by rw [hbl]] at hcl
    refine WL.call eg_19 rfl rfl (hcl) ?_
    rintro v w9 ⟨-, hsome, k9⟩
    have hx := hsome [] t6
    rw [bgon_none g1, List.nil_append, show srt ([] : List Int) = [] from srt_id List.Pairwise.nil, t5] at hx
    obtain ⟨fa, fc, ba, bc, rfl, hB1, -, -⟩ := hx
    clear hsome
    have zs_k9 := k9.size
    replace hw := hw.pure k9
    replace hBa := hBa.pure k9
    replace hR7 := hR7.pure k9
    refine WL.move rfl rfl (WL.extract rfl rfl rfl (WL.extract rfl rfl rfl (WL.extract rfl rfl rfl (WL.assign rfl rfl (WL.assign rfl rfl (WL.assign rfl rfl (WL.nil (?_))))))))
    refine WX.then_normal (WC.seq (WC.region (WL.move rfl rfl (WL.move rfl rfl (WL.move rfl rfl (WL.lens Tryz.underlying9 rfl rfl (WL.move rfl rfl (?_))))))))
    refine WL.call eg_24 rfl rfl (sum6_calls _ dat (by omega)) ?_
    rintro v w10 ⟨rfl, k10⟩
    rw [← hb]
    have zs_k10 := k10.size
    replace hw := hw.pure k10
    replace hBa := hBa.pure k10
    replace hR7 := hR7.pure k10
    replace hB1 := hB1.pure k10
    have zw10 := hw.size
    have hBs : AB w10 a R s1.dn 2 := by rw [d1]; exact hBa
    have hcl := arepair_last hBs hna7 hR7 (fun y hy => by have := hy.2; omega) u1 (by omega) (by omega) addr b l7 (by rw [d1, n1, ← hc]; omega) (by omega) g1 t6 t5 (by rw [d1, ← hc]; exact hm) t1 t3 t4
    rw [show ((b.length : Nat) : Int) = (dat.size : Int) from by rw [hbl], show ((((addr + m) % s1.dn : Nat)) : Int) = (d : Int) from by rw [d1, hd], hpl] at hcl
    refine WL.call eg_29 rfl rfl (hcl) ?_
    rintro v w11 ⟨⟨ro, rc, rfl, hro, hR11⟩, k11⟩
    replace hB1 := hB1.chg k11 (fun y _ h1 h2 => by have h3 : _ ≤ y := h1; have := h2.2; omega)
    replace hw := hw.chg k11 (fun y h1 h2 => by rcases h2.1 with h | h <;> omega)
    have hheld : heldS (addS s1 ((d : Int), ((2 + q : Nat) : Int)) cl) ((d : Int), ((2 + q : Nat) : Int)) = cl := by rw [addS_held, if_pos rfl]
    have u9 := addS_up u1 ((d : Int), ((2 + q : Nat) : Int)) cl
    have g9 : goneS (addS s1 ((d : Int), ((2 + q : Nat) : Int)) cl) (d : Int) = false := g1 _
    have i9 : inS (addS s1 ((d : Int), ((2 + q : Nat) : Int)) cl) (d : Int) ((2 + q : Nat) : Int) := hi3
    obtain ⟨s9, es9⟩ : ∃ s9, s9 = addS s1 ((d : Int), ((2 + q : Nat) : Int)) cl := ⟨_, rfl⟩
    rw [← es9] at hR11 hheld u9 g9 i9
    clear es9
    refine WL.move rfl rfl (WL.extract rfl rfl rfl (WL.extract rfl rfl rfl (WL.assign rfl rfl (WL.assign rfl rfl (WL.nil (WX.then_normal (WC.seq (?_))))))))
    refine WC.region (WL.move rfl rfl (WL.move rfl rfl (WL.move rfl rfl (?_))))
    refine WL.call eg_30 rfl rfl (ReadU hR11 u9 i9 g9) ?_
    rintro v w12 ⟨⟨r, rfl, hrx, hr⟩, k12⟩
    rw [hheld] at hrx
    have zs_k12 := k12.size
    replace hw := hw.pure k12
    replace hB1 := hB1.pure k12
    replace hR11 := hR11.pure k12
    replace hro := hro.pure k12
    refine WL.move rfl rfl (WL.extract rfl rfl rfl (WL.extract rfl rfl rfl (WL.assign rfl rfl (WL.assign rfl rfl (WL.nil (WX.then_normal (WC.seq (?_))))))))
    refine WC.region (WL.move rfl rfl (?_))
    refine WL.eqlT rfl rfl rfl (by rfl) ?_
    refine WL.move rfl rfl (WL.want rfl rfl rfl (WL.move rfl rfl (WL.want rfl rfl rfl (?_))))
    refine WL.toStr Tryz.underlying26 Tryz.underlying5 Tryz.underlying9 hB1.rsl rfl rfl ?_
    refine WL.want rfl rfl rfl (WL.move rfl rfl (WL.want rfl rfl rfl (?_)))
    refine WL.seqlT rfl rfl rfl ((by rw [hb])) ?_
    refine WL.pickT rfl rfl rfl (WL.move rfl rfl (WL.want rfl rfl rfl (WL.move rfl rfl (WL.want rfl rfl rfl (WL.len Tryz.underlying39 rfl rfl (WL.want rfl rfl rfl (?_)))))))
    refine WL.eqlT rfl rfl rfl (by rfl) ?_
    refine WL.pickT rfl rfl rfl (WL.move rfl rfl (WL.want rfl rfl rfl (WL.move rfl rfl (WL.want rfl rfl rfl (?_)))))
    refine WL.eqlT rfl rfl rfl (by rfl) ?_
    refine WL.pickT rfl rfl rfl (WL.move rfl rfl (WL.want rfl rfl rfl (WL.move rfl rfl (WL.want rfl rfl rfl (WL.len Tryz.underlying39 rfl rfl (WL.want rfl rfl rfl (?_)))))))
    refine WL.eqlT rfl rfl rfl (by rfl) ?_
    refine WL.pickT rfl rfl rfl (WL.move rfl rfl (WL.want rfl rfl rfl (WL.move rfl rfl (WL.want rfl rfl rfl (?_)))))
    have hx0 : [(d : Int)][0]? = some (d : Int) := rfl
    refine WL.indexT Tryz.underlying39 Tryz.sizeOf3 hro.rsl rfl rfl ⟨hx0, rfl⟩ rfl ?_
    intro b_14 o_14 hc_14
    refine WL.want rfl rfl rfl (WL.load Tryz.isAgg3 rfl (hc_14 0 _ rfl) rfl (WL.want rfl rfl rfl (WL.move rfl rfl (WL.want rfl rfl rfl (?_)))))
    refine WL.eqlT rfl rfl rfl (by rfl) ?_
    refine WL.pickT rfl rfl rfl (WL.move rfl rfl (WL.want rfl rfl rfl (WL.move rfl rfl (WL.want rfl rfl rfl (?_)))))
    refine WL.eqlT rfl rfl rfl (by rfl) ?_
    refine WL.pickT rfl rfl rfl (WL.move rfl rfl (WL.want rfl rfl rfl (WL.move rfl rfl (WL.want rfl rfl rfl (WL.move rfl rfl (WL.want rfl rfl rfl (?_)))))))
    have hx1 : r.xs[off]? = some 0 := by rw [hrx]; exact t2
    refine WL.indexT Tryz.underlying26 Tryz.sizeOf5 hr rfl rfl ⟨hx1, rfl⟩ rfl ?_
    intro b_15 o_15 hc_15
    refine WL.want rfl rfl rfl (WL.load Tryz.isAgg5 rfl (hc_15 0 _ rfl) rfl (WL.want rfl rfl rfl (?_)))
    refine WL.eqlT rfl rfl rfl (by rfl) ?_
    refine WL.pickT rfl rfl rfl (WL.assign rfl rfl (WL.nil (WX.then_normal (WC.ret (?_)))))
    refine WX.ret1 (.inl rfl) Tryz.results9 rfl ?_
    exact ⟨_, rfl, rfl, hw⟩
end Go.Proofs.YtggecdldnpildaaGreat
