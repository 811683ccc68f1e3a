import Derived.Test.YtggecdldnpildaaGreatQArrayTails10
namespace Go.Proofs.YtggecdldnpildaaGreat
open Go.RowKit Go.HL
set_option maxRecDepth 100000

/-! a block's drives -/
theorem drives_good {A : Nat → Prop} {w : World} {a R f : Nat} {s : RA} (hB : AB w a R s.dn f) (h : RK A w R s) (h5 : 5 ≤ s.dn) (hf : f < s.sn) (addr size : Nat) (hs : 1 ≤ size ∧ size ≤ 1024) (ha : addr + costA s.dn (secsA size) ≤ s.dn * (s.sn - f)) :
    Calls Tryz.prog 21 [ptr a, vi addr, vi size].toArray w (Ret fun v w' => (∃ ao c, v = .tuple #[.slice ao (bdrv s addr size).length c, vi 0] ∧ Row (w.heap.size ≤ ·) w' 3 ei ao c (bdrv s addr size)) ∧ Chg Nob w w') := by
  have hw := Chg.refl Nob w
  have la := hB.lt
  have hdn := h.ok.dn
  have hsn := h.ok.sn
  have hm : s.dn * (s.sn - f) ≤ 16 * 2000 := Nat.mul_le_mul (by omega) (by omega)
  have h8 := secsA_le hs.2
  have h20 := (costA_is ⟨h5, hdn.2⟩ h8).2
  have ecost : costA s.dn (secsA size) = costA s.dn (secsA size) := rfl
  obtain ⟨cost, hcost⟩ : ∃ c, c = costA s.dn (secsA size) := ⟨_, rfl⟩
  rw [← hcost] at ha h20
  refine Calls.of_WC Tryz.func21 rfl Tryz.ntmps21 (by simp) ?_
  refine WC.seq (WC.region (WL.assign rfl rfl (WL.assign rfl rfl (WL.nil (WX.then_normal (WC.seq (WC.region (?_))))))))
  refine WL.move rfl rfl (WL.move rfl rfl (?_))
  refine WL.call eg_15 rfl rfl (cost_good hB ⟨h5, hdn.2⟩ size hs) ?_
  rintro v w1 ⟨rfl, k1⟩
  rw [← hcost]
  have zs_k1 := k1.size
  replace hB := hB.pure k1
  replace h := h.pure k1
  replace hw := hw.pure k1
  refine WL.move rfl rfl (WL.extract rfl rfl rfl (WL.extract rfl rfl rfl (WL.assign rfl rfl (WL.assign rfl rfl (WL.nil (WX.then_normal (WC.seq (?_))))))))
  refine WC.seq (WC.region (WL.move rfl rfl (?_)))
  refine WL.neqF rfl rfl rfl (by rfl) ?_
  refine WL.move rfl rfl (WL.want rfl rfl rfl (WL.move rfl rfl (WL.want rfl rfl rfl (?_))))
  refine WL.lssF rfl rfl rfl (by omega) ?_
  refine WL.pickF rfl rfl rfl (WL.move rfl rfl (WL.want rfl rfl rfl (WL.move rfl rfl (WL.want rfl rfl rfl (WL.move rfl rfl (WL.want rfl rfl rfl (?_)))))))
  refine WL.call eg_16 rfl rfl (Cells_calls hB h hf) ?_
  rintro v w1 ⟨rfl, k1⟩
  have zs_k1 := k1.size
  replace hB := hB.pure k1
  replace h := h.pure k1
  replace hw := hw.pure k1
  refine WL.want rfl rfl rfl (WL.move rfl rfl (WL.want rfl rfl rfl (?_)))
  refine WL.sub64 rfl rfl (by constructor <;> omega) rfl ?_
  refine WL.want rfl rfl rfl (?_)
  refine WL.gtrF rfl rfl rfl (by omega) ?_
  refine WL.pickF rfl rfl rfl (WL.nil (WX.then_normal (WC.cond_false rfl (WC.skip (WX.then_normal (WC.seq (WC.region (?_))))))))
  refine WL.assign rfl rfl (WL.nil (WX.then_normal (WC.seq (WC.seq (WC.region (WL.move rfl rfl (WL.move rfl rfl (?_))))))))
  refine WL.nilCheck rfl rfl (WL.fieldAddr (fld_81_1) rfl rfl (WL.loadB Tryz.isAgg3 hB rfl rfl rfl (?_)))
  refine WL.mini rfl rfl rfl ?_
  rw [show (if (s.dn : Int) < (cost : Int) then (s.dn : Int) else (cost : Int)) = ((min cost s.dn : Nat) : Int) from by split <;> omega]
  refine WL.move rfl rfl (WL.nil (WX.then_normal (WC.block (?_))))
  obtain ⟨m, hmm⟩ : ∃ m, m = min cost s.dn := ⟨_, rfl⟩
  obtain ⟨L, hL⟩ : ∃ L : Nat → List Int, L = fun i => (List.range i).map fun c => (((addr + c) % s.dn : Nat) : Int) := ⟨_, rfl⟩
  have hLl : ∀ i, (L i).length = i := fun i => by rw [hL]; simp
  have hLs : ∀ i, L (i + 1) = L i ++ [(((addr + i) % s.dn : Nat) : Int)] := fun i => by rw [hL]; simp [List.range_succ]
  rw [← hmm]
  refine WC.loop (σ := (Option Addr × Nat) × Nat) (fun q => [(0, ptr a), (1, vi addr), (10, .slice q.1.1 (L q.2).length q.1.2), (37, vi (m : Nat)), (38, vi (q.2 : Int))]) (fun q w' => q.2 ≤ m ∧ AB w' a R s.dn f ∧ Row (w.heap.size ≤ ·) w' 3 ei q.1.1 q.1.2 (L q.2) ∧ Chg Nob w w') (fun q => m - q.2) ((none, 0), 0) ⟨rfl, rfl, by show some (Value.slice none 0 0) = some (Value.slice none (L 0).length 0); rw [hLl], rfl, rfl, trivial⟩ ⟨Nat.zero_le _, hB, by rw [show L 0 = [] from by rw [hL]; rfl]; exact Row.nil _ _ _ _, hw⟩ ?_
  clear hB hw h
  rintro ⟨⟨ao, c⟩, i⟩ w2 ⟨hi, hB, hO, hw⟩
  simp only at hi hO
  dsimp only
  have zw1 := hw.size
  have hLi := hLl i
  refine WC.seq (WC.region (?_))
  refine WL.lss? rfl rfl rfl (fun h39 => ?_) (fun h39 => ?_)
  ·
    refine WL.nil (WX.then_normal (WC.seq (WC.cond_true rfl (WC.skip (WX.then_normal (WC.seq (WC.block (?_))))))))
    refine WC.seq (WC.region (WL.move rfl rfl (WL.assign rfl rfl (WL.nil (WX.then_normal (WC.region (WL.move rfl rfl (?_))))))))
    refine WL.move rfl rfl (WL.move rfl rfl (?_))
    refine WL.add64 rfl rfl (by constructor <;> omega) rfl ?_
    refine WL.move rfl rfl (WL.nilCheck rfl rfl (WL.fieldAddr (fld_81_1) rfl rfl (WL.loadB Tryz.isAgg3 hB rfl rfl rfl (?_))))
    refine WL.rem64i rfl rfl (by constructor <;> omega) rfl ?_
    rw [show ((addr : Int) + (i : Int)) % (s.dn : Int) = (((addr + i) % s.dn : Nat) : Int) from by rw [Int.natCast_emod, Int.natCast_add]]
    refine WL.build (e := ei) [(((addr + i) % s.dn : Nat) : Int)] Tryz.underlying39 Tryz.sizeOf3 Tryz.zeroValue3 rfl rfl rfl (by simp [Value.cells] <;> rfl) (by decide) rfl ?_
    intro a_q50 w_q50 q50 l_q50 z_q50 k_q50
    have zs_k_q50 := k_q50.size
    replace hB := hB.pure k_q50
    replace hO := hO.pure k_q50
    replace hw := hw.pure k_q50
    refine WL.append (e := ei) info_3 rfl Tryz.underlying39 rfl rfl hO (q50.rsl.src Tryz.underlying39) (by (try simp only [List.length_append, List.length_cons, List.length_nil] at *); omega) (by intro b hb; first | (apply hS; omega) | ((try dsimp only); omega)) rfl ?_
    intro a_q51 c_q51 w_q51 q51 g_q51 n_q51
    have z_q51 := g_q51.chg.size
    have zs_g_q51_chg := g_q51.chg.size
    replace hB := hB.chg g_q51.chg (by intro h1; exfalso; have h4 := h1.2; (try dsimp only at *); omega)
    replace hw := hw.chg g_q51.chg (by intros; exfalso; (try dsimp only at *); omega)
    rw [← hLs] at q51 ⊢
    refine WL.assign rfl rfl (WL.nil (WX.block_normal (WX.then_normal (WC.region (WL.add64 rfl rfl (by omega) rfl (WL.move rfl rfl (WL.nil (?_))))))))
    exact WX.loop_next ((a_q51, c_q51), i + 1) ⟨rfl, rfl, rfl, rfl, rfl, trivial⟩ ⟨by show i + 1 ≤ m; omega, hB, q51, hw⟩ (by show m - (i + 1) < m - i; omega)
  ·
    refine WL.nil (WX.then_normal (WC.seq (WC.cond_false rfl (WC.exit (WX.then_exit (WX.then_exit (WX.block_here (?_))))))))
    refine WX.then_normal (WC.seq (WC.region (WL.move rfl rfl (?_))))
    have him : i = m := by omega
    subst him
    have hat := hO.at_
    refine WL.call eg_51 rfl rfl (sort_calls hO (by omega)) ?_
    rintro v w3 ⟨rfl, hS, k3⟩
    have hlen : (srt (L i)).length = (L i).length := srt_len _
    rw [← hlen]
    replace hB := hB.chg k3 (fun hx => by have := hat.eqb hx; have := hB.lt; have := hw.size; omega)
    replace hw := hw.chg k3 (fun x hx hm => by have := hat.eqb hm; omega)
    refine WL.nil (WX.then_normal (WC.seq (WC.region (WL.move rfl rfl (WL.assign rfl rfl (WL.assign rfl rfl (WL.nil (?_))))))))
    refine WX.then_normal (WC.ret (?_))
    refine WX.ret2 (.inl rfl) Tryz.results21 rfl rfl ?_
    have e : bdrv s addr size = srt (L i) := by
      rw [bdrv, drvA, hL, hmm, hcost]
    rw [e]
    exact ⟨_, rfl, ⟨ao, c, rfl, hS⟩, hw⟩
end Go.Proofs.YtggecdldnpildaaGreat
namespace Go.Proofs.YtggecdldnpildaaGreat
open Go.RowKit Go.HL
set_option maxRecDepth 100000

/-! will a set of drives do? -/
abbrev fnFit (g1 g2 g3 g4 g5 g6 : Nat) : Value := .func (.func 49) #[] #[ptr g1, ptr g2, ptr g3, ptr g4, ptr g5, ptr g6]
structure FE (N : Nat) (w : World) (g1 g2 g3 g4 g5 g6 : Nat) (ga : Option Addr) (gc : Nat) (G : List Int) (la : Option Addr) (lc : Nat) (l : List Stp) (size : Nat) (sum : ByteArray) : Prop where
  b1 : Blk w g1 39 [.slice ga G.length gc]
  b2 : Blk w g2 91 [.slice la l.length lc]
  b3 : Blk w g3 3 [vi size]
  b4 : Blk w g4 9 [.string sum]
  b5 : ∃ fa fn fc, Blk w g5 26 [.slice fa fn fc]
  b6 : ∃ fa fn fc, Blk w g6 39 [.slice fa fn fc]
  rG : RSl (· < N) w ei ga gc G
  rl : RSK (· < N) w 121 estp la lc l
  rI : SI (· < N) w 26 5 3 l
  ne : (g1 < g5 ∧ g2 < g5 ∧ g3 < g5 ∧ g4 < g5) ∧ g5 < g6 ∧ N ≤ g5
/-- what was found -/
def Got (N2 : Nat) (w : World) (g5 g6 sz : Nat) (B : List UInt8) (bad : List Int) : Prop := B.length = sz ∧ ∃ fa fc ba bc, Blk w g5 26 [.slice fa B.length fc] ∧ Row (fun x => N2 ≤ x) w 5 eb fa fc B ∧ Blk w g6 39 [.slice ba bad.length bc] ∧ Row (fun x => N2 ≤ x) w 3 ei ba bc bad
section
variable {N N2 g1 g2 g3 g4 g5 g6 gc lc size : Nat} {w w' : World} {ga la : Option Addr} {G : List Int} {l : List Stp} {sum : ByteArray} {M : Nat → Prop}
theorem FE.pure (h : FE N w g1 g2 g3 g4 g5 g6 ga gc G la lc l size sum) (k : Chg Nob w w') : FE N w' g1 g2 g3 g4 g5 g6 ga gc G la lc l size sum := by
  obtain ⟨b1, b2, b3, b4, ⟨x1, x2, x3, b5⟩, ⟨y1, y2, y3, b6⟩, rG, rl, rI, ne⟩ := h
  exact ⟨b1.pure k, b2.pure k, b3.pure k, b4.pure k, ⟨_, _, _, b5.pure k⟩, ⟨_, _, _, b6.pure k⟩, rG.pure k, rl.pure k, rI.pure k, ne⟩
theorem Got.pure {B : List UInt8} {bad : List Int} (h : Got N2 w g5 g6 size B bad) (k : Chg Nob w w') : Got N2 w' g5 g6 size B bad := by
  obtain ⟨hl, fa, fc, ba, bc, h1, h2, h3, h4⟩ := h
  exact ⟨hl, fa, fc, ba, bc, h1.pure k, h2.pure k, h3.pure k, h4.pure k⟩
end
noncomputable def fitB (G : List Int) (l : List Stp) (size : Nat) (sum : ByteArray) (set : List Int) : Bool := decide ((⟨(sumB ((datA (l.map Stp.abs) (srt (G ++ set))).take size)).toArray⟩ : ByteArray) = sum)
set_option maxHeartbeats 4000000 in
theorem fits_calls {S : Nat → Prop} {w : World} {N g1 g2 g3 g4 g5 g6 gc lc sc size : Nat} {ga la sa : Option Addr} {G set : List Int} {l : List Stp} {sum : ByteArray} (hE : FE N w g1 g2 g3 g4 g5 g6 ga gc G la lc l size sum) (hset : RSl S w ei sa sc set) (hG3 : G.length ≤ 100) (hs3 : set.length ≤ 100)
    (hok : ∀ s ∈ l, OkCol s.abs.1 s.abs.2 (srt (G ++ set))) (hl8 : l.length ≤ 8) (hsz : 1 ≤ size ∧ size ≤ 128 * kR l) (hk8 : kR l ≤ 100) (hs1 : size ≤ 1024) :
    Calls Tryz.prog 49 [.slice sa set.length sc, ptr g1, ptr g2, ptr g3, ptr g4, ptr g5, ptr g6].toArray w (Ret fun v w' => v = .bool (fitB G l size sum set) ∧ FE N w' g1 g2 g3 g4 g5 g6 ga gc G la lc l size sum ∧ (fitB G l size sum set = true → Got w.heap.size w' g5 g6 size ((datA (l.map Stp.abs) (srt (G ++ set))).take size) (srt (G ++ set))) ∧ Chg (fun x => x = g5 ∨ x = g6) w w') := by
  have hw := Chg.refl (fun x => x = g5 ∨ x = g6) w
  obtain ⟨b1, b2, b3, b4, ⟨x1, x2, x3, b5⟩, ⟨y1, y2, y3, b6⟩, rG, rl, rI, ne⟩ := hE
  have l5 := b5.lt
  have l6 := b6.lt
  replace hset := hset.old
  refine Calls.of_WC Tryz.func49 rfl Tryz.ntmps49 (by simp) ?_
  refine WC.seq (WC.region (WL.assign rfl rfl (WL.nil (WX.then_normal (WC.seq (WC.region (WL.loadB Tryz.isAgg39 b1 rfl rfl rfl (?_))))))))
  refine WL.move rfl rfl (?_)
  refine WL.build (e := erz) [⟨ga, gc, G⟩, ⟨sa, sc, set⟩] Tryz.underlying124 Tryz.sizeOf39 Tryz.zeroValue39 rfl rfl rfl (by simp [Value.cells] <;> rfl) (by decide) rfl ?_
  intro a_q14 w_q14 q14 l_q14 z_q14 k_q14
  replace b1 := b1.pure k_q14
  replace b2 := b2.pure k_q14
  replace b3 := b3.pure k_q14
  replace b4 := b4.pure k_q14
  replace b5 := b5.pure k_q14
  replace b6 := b6.pure k_q14
  replace rG := rG.pure k_q14
  replace rl := rl.pure k_q14
  replace rI := rI.pure k_q14
  replace hset := hset.pure k_q14
  replace hw := hw.pure k_q14
  refine WL.call eg_50 rfl rfl (zconcat_calls (S1 := fun _ => True) (r1 := ⟨ga, gc, G⟩) (r2 := ⟨sa, sc, set⟩) q14.rsl (rG.mono (fun _ _ => trivial)) (hset.mono (fun _ _ => trivial)) (by show G.length ≤ 10000; omega) (by show set.length ≤ 10000; omega)) ?_
  rintro v w2 ⟨⟨ab, cb, rfl, hb0⟩, k2⟩
  have zw1 := hw.size
  have zs2 := k2.size
  replace b1 := b1.pure k2
  replace b2 := b2.pure k2
  replace b3 := b3.pure k2
  replace b4 := b4.pure k2
  replace b5 := b5.pure k2
  replace b6 := b6.pure k2
  replace rG := rG.pure k2
  replace rl := rl.pure k2
  replace rI := rI.pure k2
  replace hw := hw.pure k2
  have hb1 : Row (fun x => w.heap.size ≤ x) w2 3 ei ab cb (G ++ set) := hb0.mono (fun x hx => by have h9 : _ ≤ x := hx; show w.heap.size ≤ x; omega)
  clear hb0
  refine WL.assign rfl rfl (WL.nil (WX.then_normal (WC.seq (WC.region (WL.move rfl rfl (?_))))))
  have hat := hb1.at_
  refine WL.call eg_51 rfl rfl (sort_calls hb1 (by show (G ++ set).length ≤ 100000; rw [List.length_append]; omega)) ?_
  rintro v w3 ⟨rfl, hb2, k3⟩
  have zw2 := hw.size
  have hM : ∀ x, x < w.heap.size → Eqb ab x → False := fun x h1 h2 => by have := hat.eqb h2; omega
  have lG : ∀ x, x < N → x < w.heap.size := fun x hx => by omega
  have e1 := b1.lt
  replace b1 := b1.chg k3 (fun h => hM _ (by omega) h)
  replace b2 := b2.chg k3 (fun h => hM _ (by omega) h)
  replace b3 := b3.chg k3 (fun h => hM _ (by omega) h)
  replace b4 := b4.chg k3 (fun h => hM _ (by omega) h)
  replace b5 := b5.chg k3 (fun h => hM _ (by omega) h)
  replace b6 := b6.chg k3 (fun h => hM _ (by omega) h)
  replace rG := rG.chg k3 (fun x _ h1 h2 => hM x (lG x h1) h2)
  replace rl := rl.chg k3 (fun x _ h1 _ h2 => hM x (lG x h1) h2)
  replace rI := rI.chg k3 (fun x _ h1 h2 => hM x (lG x h1) h2)
  replace hw := hw.chg k3 (fun x h1 h2 => (hM x h1 h2).elim)
  obtain ⟨bad, hbad⟩ : ∃ bad, bad = srt (G ++ set) := ⟨_, rfl⟩
  have hlen : (G ++ set).length = bad.length := by rw [hbad, srt_len]
  rw [hlen]
  rw [← hbad] at hb2 hok ⊢
  refine WL.nil (WX.then_normal (WC.seq (WC.region (WL.loadB Tryz.isAgg91 b2 rfl rfl rfl (WL.loadB Tryz.isAgg3 b3 rfl rfl rfl (WL.move rfl rfl (?_)))))))
  refine WL.call eg_52 rfl rfl (data_calls rl rI hb2.rsl hok hl8 size hsz hk8) ?_
  rintro v w4 ⟨⟨a4, c4, rfl, hB, hBl⟩, k4⟩
  have zw3 := hw.size
  replace b1 := b1.pure k4
  replace b2 := b2.pure k4
  replace b3 := b3.pure k4
  replace b4 := b4.pure k4
  replace b5 := b5.pure k4
  replace b6 := b6.pure k4
  replace rG := rG.pure k4
  replace rl := rl.pure k4
  replace rI := rI.pure k4
  replace hw := hw.pure k4
  replace hb2 := hb2.pure k4
  obtain ⟨B, eB⟩ : ∃ B, B = (datA (l.map Stp.abs) bad).take size := ⟨_, rfl⟩
  rw [← eB] at hB ⊢
  have hBs : B.length = size := by rw [eB, List.length_take]; omega
  have hfb : fitB G l size sum set = decide ((⟨(sumB B).toArray⟩ : ByteArray) = sum) := by rw [fitB, ← hbad, eB]
  have hB1 : Row (fun x => w.heap.size ≤ x) w4 5 eb a4 c4 B := hB.mono (fun x hx => by have h9 : _ ≤ x := hx; show w.heap.size ≤ x; omega)
  clear hB
  by_cases hfit : (⟨(sumB B).toArray⟩ : ByteArray) = sum
  ·
    refine WL.move rfl rfl (WL.extract rfl rfl rfl (WL.extract rfl rfl rfl (WL.assign rfl rfl (WL.assign rfl rfl (WL.nil (WX.then_normal (WC.seq (?_))))))))
    refine WC.seq (?_)
    refine WC.draw (Nob) [0, 1, 2, 3, 4, 5, 6, 7] [] mixed rfl rfl (fun wd_1 kd_1 zd_1 => ?_)
    replace b1 := b1.pure kd_1
    replace b2 := b2.pure kd_1
    replace b3 := b3.pure kd_1
    replace b4 := b4.pure kd_1
    replace b5 := b5.pure kd_1
    replace b6 := b6.pure kd_1
    replace rG := rG.pure kd_1
    replace rl := rl.pure kd_1
    replace rI := rI.pure kd_1
    replace hw := hw.pure kd_1
    replace hb2 := hb2.pure kd_1
    replace hB1 := hB1.pure kd_1
    apply DQ.step (E' := [(11, _)])
    case ho => rfl
    case hs => exact ⟨rfl, trivial⟩
    case hk => rfl
    case h1 =>
      intro wq_2 kq_2
      refine WL.move rfl rfl (?_)
      refine WL.nil ?_
      exact WX.one ⟨rfl, by exact Chg.refl _ _⟩
    apply DQ.step (E' := [(25, _)])
    case ho => rfl
    case hs => exact ⟨rfl, trivial⟩
    case hk => rfl
    case h1 =>
      intro wq_3 kq_3
      refine WL.not rfl rfl ?_
      refine WL.nil ?_
      exact WX.one ⟨rfl, by exact Chg.refl _ _⟩
    apply DQ.step (E' := [(26, _)])
    case ho => rfl
    case hs => exact ⟨rfl, trivial⟩
    case hk => rfl
    case h1 =>
      intro wq_4 kq_4
      refine WL.move rfl rfl (?_)
      refine WL.nil ?_
      exact WX.one ⟨rfl, by exact Chg.refl _ _⟩
    apply DQ.step (E' := [(10, _), (27, _)])
    case ho => rfl
    case hs => exact ⟨rfl, rfl, trivial⟩
    case hk => rfl
    case h1 =>
      intro wq_5 kq_5
      refine WL.want rfl rfl rfl (WL.move rfl rfl (?_))
      refine WL.nil ?_
      exact WX.one ⟨rfl, by exact Chg.refl _ _⟩
    apply DQ.step (E' := [(28, _), (27, _)])
    case ho => rfl
    case hs => exact ⟨rfl, rfl, trivial⟩
    case hk => rfl
    case h1 =>
      intro wq_6 kq_6
      replace b1 := b1.pure kq_6
      replace b2 := b2.pure kq_6
      replace b3 := b3.pure kq_6
      replace b4 := b4.pure kq_6
      replace b5 := b5.pure kq_6
      replace b6 := b6.pure kq_6
      replace rG := rG.pure kq_6
      replace rl := rl.pure kq_6
      replace rI := rI.pure kq_6
      replace hw := hw.pure kq_6
      replace hb2 := hb2.pure kq_6
      replace hB1 := hB1.pure kq_6
      refine WL.want rfl rfl rfl (?_)
      refine WL.call eg_12 rfl rfl (sum_calls hB1.rsl (by omega)) ?_
      rintro v w5 ⟨rfl, k5⟩
      replace b1 := b1.pure k5
      replace b2 := b2.pure k5
      replace b3 := b3.pure k5
      replace b4 := b4.pure k5
      replace b5 := b5.pure k5
      replace b6 := b6.pure k5
      replace rG := rG.pure k5
      replace rl := rl.pure k5
      replace rI := rI.pure k5
      replace hw := hw.pure k5
      replace hb2 := hb2.pure k5
      replace hB1 := hB1.pure k5
      refine WL.nil ?_
      exact WX.one ⟨rfl, by assumption⟩
    apply DQ.step (E' := [(4, _), (27, _)])
    case ho => rfl
    case hs => exact ⟨rfl, rfl, trivial⟩
    case hk => rfl
    case h1 =>
      intro wq_7 kq_7
      replace b1 := b1.pure kq_7
      replace b2 := b2.pure kq_7
      replace b3 := b3.pure kq_7
      replace b4 := b4.pure kq_7
      replace b5 := b5.pure kq_7
      replace b6 := b6.pure kq_7
      replace rG := rG.pure kq_7
      replace rl := rl.pure kq_7
      replace rI := rI.pure kq_7
      replace hw := hw.pure kq_7
      replace hb2 := hb2.pure kq_7
      replace hB1 := hB1.pure kq_7
      refine WL.want rfl rfl rfl (WL.loadB Tryz.isAgg9 b4 rfl rfl rfl (?_))
      refine WL.nil ?_
      exact WX.one ⟨rfl, by exact Chg.refl _ _⟩
    apply DQ.step (E' := [(29, _), (30, _), (27, _)])
    case ho => rfl
    case hs => exact ⟨rfl, rfl, rfl, trivial⟩
    case hk => rfl
    case h1 =>
      intro wq_8 kq_8
      refine WL.want rfl rfl rfl (?_)
      refine WL.sneqF rfl rfl rfl (hfit) ?_
      refine WL.nil ?_
      exact WX.one ⟨rfl, by exact Chg.refl _ _⟩
    apply DQ.step (E' := [(27, _), (31, _)])
    case ho => rfl
    case hs => exact ⟨rfl, rfl, trivial⟩
    case hk => rfl
    case h1 =>
      intro wq_9 kq_9
      refine WL.pickF rfl rfl rfl (?_)
      refine WL.nil ?_
      exact WX.one ⟨rfl, by exact Chg.refl _ _⟩
    refine DQ.done (fun _ => ?_)
    refine DL.done (fun we_10 ke_10 => ?_)
    replace b1 := b1.pure ke_10
    replace b2 := b2.pure ke_10
    replace b3 := b3.pure ke_10
    replace b4 := b4.pure ke_10
    replace b5 := b5.pure ke_10
    replace b6 := b6.pure ke_10
    replace rG := rG.pure ke_10
    replace rl := rl.pure ke_10
    replace rI := rI.pure ke_10
    replace hw := hw.pure ke_10
    replace hb2 := hb2.pure ke_10
    replace hB1 := hB1.pure ke_10
    refine WX.then_normal (WC.cond_false rfl (WC.skip (WX.then_normal (WC.seq (WC.region (WL.move rfl rfl (WL.move rfl rfl (?_))))))))
    refine WL.store Tryz.sizeOf26 b5 rfl rfl rfl rfl ?_
    intro w_11 hs_11 hn_11 k_11
    replace b1 := b1.chg k_11 (by intro h1; have h2 : _ = _ := h1; omega)
    replace b2 := b2.chg k_11 (by intro h1; have h2 : _ = _ := h1; omega)
    replace b3 := b3.chg k_11 (by intro h1; have h2 : _ = _ := h1; omega)
    replace b4 := b4.chg k_11 (by intro h1; have h2 : _ = _ := h1; omega)
    replace b6 := b6.chg k_11 (by intro h1; have h2 : _ = _ := h1; omega)
    replace rG := rG.chg k_11 (by intro b h1 h2 h3; have h4 : b < N := h2; have h5 : b = _ := h3; omega)
    replace rl := rl.chg k_11 (by intro b h1 h2 h3 h4; have h5 : b < N := h2; have h6 : b = _ := h4; omega)
    replace rI := rI.chg k_11 (by intro b h1 h2 h3; have h4 : b < N := h2; have h5 : b = _ := h3; omega)
    replace hw := hw.chg k_11 (by intro x h1 h2; exact .inl h2)
    replace hb2 := hb2.chg k_11 (by intro b h1 h2 h3; have h4 : w.heap.size ≤ b := h2; have h5 : b = _ := h3; omega)
    replace hB1 := hB1.chg k_11 (by intro b h1 h2 h3; have h4 : w.heap.size ≤ b := h2; have h5 : b = _ := h3; omega)
    replace b5 := hn_11
    refine WL.store Tryz.sizeOf39 b6 rfl rfl rfl rfl ?_
    intro w_12 hs_12 hn_12 k_12
    replace b1 := b1.chg k_12 (by intro h1; have h2 : _ = _ := h1; omega)
    replace b2 := b2.chg k_12 (by intro h1; have h2 : _ = _ := h1; omega)
    replace b3 := b3.chg k_12 (by intro h1; have h2 : _ = _ := h1; omega)
    replace b4 := b4.chg k_12 (by intro h1; have h2 : _ = _ := h1; omega)
    replace b5 := b5.chg k_12 (by intro h1; have h2 : _ = _ := h1; omega)
    replace rG := rG.chg k_12 (by intro b h1 h2 h3; have h4 : b < N := h2; have h5 : b = _ := h3; omega)
    replace rl := rl.chg k_12 (by intro b h1 h2 h3 h4; have h5 : b < N := h2; have h6 : b = _ := h4; omega)
    replace rI := rI.chg k_12 (by intro b h1 h2 h3; have h4 : b < N := h2; have h5 : b = _ := h3; omega)
    replace hw := hw.chg k_12 (by intro x h1 h2; exact .inr h2)
    replace hb2 := hb2.chg k_12 (by intro b h1 h2 h3; have h4 : w.heap.size ≤ b := h2; have h5 : b = _ := h3; omega)
    replace hB1 := hB1.chg k_12 (by intro b h1 h2 h3; have h4 : w.heap.size ≤ b := h2; have h5 : b = _ := h3; omega)
    replace b6 := hn_12
    refine WL.nil (WX.then_normal (WC.seq (WC.region (WL.assign rfl rfl (WL.nil (WX.then_normal (WC.ret (?_))))))))
    refine WX.ret1 (.inl rfl) Tryz.results49 rfl ?_
    have hff : fitB G l size sum set = true := by rw [hfb, decide_eq_true hfit]
    refine ⟨_, rfl, by rw [hff], ⟨b1, b2, b3, b4, ⟨_, _, _, b5⟩, ⟨_, _, _, b6⟩, rG, rl, rI, ne⟩, fun _ => ⟨hBs, a4, c4, ab, cb, b5, hB1, b6, hb2⟩, hw⟩
  ·
    refine WL.move rfl rfl (WL.extract rfl rfl rfl (WL.extract rfl rfl rfl (WL.assign rfl rfl (WL.assign rfl rfl (WL.nil (WX.then_normal (WC.seq (?_))))))))
    refine WC.seq (?_)
    refine WC.draw (Nob) [0, 1, 2, 3, 4, 5, 6, 7] [] mixed rfl rfl (fun wd_1 kd_1 zd_1 => ?_)
    replace b1 := b1.pure kd_1
    replace b2 := b2.pure kd_1
    replace b3 := b3.pure kd_1
    replace b4 := b4.pure kd_1
    replace b5 := b5.pure kd_1
    replace b6 := b6.pure kd_1
    replace rG := rG.pure kd_1
    replace rl := rl.pure kd_1
    replace rI := rI.pure kd_1
    replace hw := hw.pure kd_1
    replace hb2 := hb2.pure kd_1
    replace hB1 := hB1.pure kd_1
    apply DQ.step (E' := [(11, _)])
    case ho => rfl
    case hs => exact ⟨rfl, trivial⟩
    case hk => rfl
    case h1 =>
      intro wq_2 kq_2
      refine WL.move rfl rfl (?_)
      refine WL.nil ?_
      exact WX.one ⟨rfl, by exact Chg.refl _ _⟩
    apply DQ.step (E' := [(25, _)])
    case ho => rfl
    case hs => exact ⟨rfl, trivial⟩
    case hk => rfl
    case h1 =>
      intro wq_3 kq_3
      refine WL.not rfl rfl ?_
      refine WL.nil ?_
      exact WX.one ⟨rfl, by exact Chg.refl _ _⟩
    apply DQ.step (E' := [(26, _)])
    case ho => rfl
    case hs => exact ⟨rfl, trivial⟩
    case hk => rfl
    case h1 =>
      intro wq_4 kq_4
      refine WL.move rfl rfl (?_)
      refine WL.nil ?_
      exact WX.one ⟨rfl, by exact Chg.refl _ _⟩
    apply DQ.step (E' := [(10, _), (27, _)])
    case ho => rfl
    case hs => exact ⟨rfl, rfl, trivial⟩
    case hk => rfl
    case h1 =>
      intro wq_5 kq_5
      refine WL.want rfl rfl rfl (WL.move rfl rfl (?_))
      refine WL.nil ?_
      exact WX.one ⟨rfl, by exact Chg.refl _ _⟩
    apply DQ.step (E' := [(28, _), (27, _)])
    case ho => rfl
    case hs => exact ⟨rfl, rfl, trivial⟩
    case hk => rfl
    case h1 =>
      intro wq_6 kq_6
      replace b1 := b1.pure kq_6
      replace b2 := b2.pure kq_6
      replace b3 := b3.pure kq_6
      replace b4 := b4.pure kq_6
      replace b5 := b5.pure kq_6
      replace b6 := b6.pure kq_6
      replace rG := rG.pure kq_6
      replace rl := rl.pure kq_6
      replace rI := rI.pure kq_6
      replace hw := hw.pure kq_6
      replace hb2 := hb2.pure kq_6
      replace hB1 := hB1.pure kq_6
      refine WL.want rfl rfl rfl (?_)
      refine WL.call eg_12 rfl rfl (sum_calls hB1.rsl (by omega)) ?_
      rintro v w5 ⟨rfl, k5⟩
      replace b1 := b1.pure k5
      replace b2 := b2.pure k5
      replace b3 := b3.pure k5
      replace b4 := b4.pure k5
      replace b5 := b5.pure k5
      replace b6 := b6.pure k5
      replace rG := rG.pure k5
      replace rl := rl.pure k5
      replace rI := rI.pure k5
      replace hw := hw.pure k5
      replace hb2 := hb2.pure k5
      replace hB1 := hB1.pure k5
      refine WL.nil ?_
      exact WX.one ⟨rfl, by assumption⟩
    apply DQ.step (E' := [(4, _), (27, _)])
    case ho => rfl
    case hs => exact ⟨rfl, rfl, trivial⟩
    case hk => rfl
    case h1 =>
      intro wq_7 kq_7
      replace b1 := b1.pure kq_7
      replace b2 := b2.pure kq_7
      replace b3 := b3.pure kq_7
      replace b4 := b4.pure kq_7
      replace b5 := b5.pure kq_7
      replace b6 := b6.pure kq_7
      replace rG := rG.pure kq_7
      replace rl := rl.pure kq_7
      replace rI := rI.pure kq_7
      replace hw := hw.pure kq_7
      replace hb2 := hb2.pure kq_7
      replace hB1 := hB1.pure kq_7
      refine WL.want rfl rfl rfl (WL.loadB Tryz.isAgg9 b4 rfl rfl rfl (?_))
      refine WL.nil ?_
      exact WX.one ⟨rfl, by exact Chg.refl _ _⟩
    apply DQ.step (E' := [(29, _), (30, _), (27, _)])
    case ho => rfl
    case hs => exact ⟨rfl, rfl, rfl, trivial⟩
    case hk => rfl
    case h1 =>
      intro wq_8 kq_8
      refine WL.want rfl rfl rfl (?_)
      refine WL.sneqT rfl rfl rfl (hfit) ?_
      refine WL.nil ?_
      exact WX.one ⟨rfl, by exact Chg.refl _ _⟩
    apply DQ.step (E' := [(27, _), (31, _)])
    case ho => rfl
    case hs => exact ⟨rfl, rfl, trivial⟩
    case hk => rfl
    case h1 =>
      intro wq_9 kq_9
      refine WL.pickF rfl rfl rfl (?_)
      refine WL.nil ?_
      exact WX.one ⟨rfl, by exact Chg.refl _ _⟩
    refine DQ.done (fun _ => ?_)
    refine DL.done (fun we_10 ke_10 => ?_)
    replace b1 := b1.pure ke_10
    replace b2 := b2.pure ke_10
    replace b3 := b3.pure ke_10
    replace b4 := b4.pure ke_10
    replace b5 := b5.pure ke_10
    replace b6 := b6.pure ke_10
    replace rG := rG.pure ke_10
    replace rl := rl.pure ke_10
    replace rI := rI.pure ke_10
    replace hw := hw.pure ke_10
    replace hb2 := hb2.pure ke_10
    replace hB1 := hB1.pure ke_10
    refine WX.then_normal (WC.cond_true rfl (WC.seq (WC.region (WL.assign rfl rfl (WL.nil (WX.then_normal (WC.ret (?_))))))))
    refine WX.then_ret (?_)
    refine WX.ret1 (.inl rfl) Tryz.results49 rfl ?_
    have hff : fitB G l size sum set = false := by rw [hfb, decide_eq_false hfit]
    exact ⟨_, rfl, by rw [hff], ⟨b1, b2, b3, b4, ⟨_, _, _, b5⟩, ⟨_, _, _, b6⟩, rG, rl, rI, ne⟩, (fun h => by rw [hff] at h; cases h), hw⟩
end Go.Proofs.YtggecdldnpildaaGreat
namespace Go.Proofs.YtggecdldnpildaaGreat
open Go.RowKit Go.HL
set_option maxRecDepth 100000

/-! sets of drives are tried -/
theorem Got.up {N2 N3 g5 g6 sz : Nat} {w : World} {B : List UInt8} {bad : List Int} (h : Got N3 w g5 g6 sz B bad) (hn : N2 ≤ N3) : Got N2 w g5 g6 sz B bad := by
  obtain ⟨hl, fa, fc, ba, bc, h1, h2, h3, h4⟩ := h
  exact ⟨hl, fa, fc, ba, bc, h1, h2.mono (fun x hx => Nat.le_trans hn hx), h3, h4.mono (fun x hx => Nat.le_trans hn hx)⟩
section
variable {N g1 g2 g3 g4 g5 g6 gc lc size : Nat} {w w' : World} {ga la : Option Addr} {G : List Int} {l : List Stp} {sum : ByteArray} {M : Nat → Prop}
theorem FE.l6 (h : FE N w g1 g2 g3 g4 g5 g6 ga gc G la lc l size sum) : g6 < w.heap.size := by
  obtain ⟨y1, y2, y3, h6⟩ := h.b6
  exact h6.lt
theorem FE.hi (h : FE N w g1 g2 g3 g4 g5 g6 ga gc G la lc l size sum) (k : Chg M w w') (hd : ∀ b, b ≤ g6 → M b → False) : FE N w' g1 g2 g3 g4 g5 g6 ga gc G la lc l size sum := by
  obtain ⟨b1, b2, b3, b4, ⟨x1, x2, x3, b5⟩, ⟨y1, y2, y3, b6⟩, rG, rl, rI, ne⟩ := h
  exact ⟨b1.chg k (hd _ (by omega)), b2.chg k (hd _ (by omega)), b3.chg k (hd _ (by omega)), b4.chg k (hd _ (by omega)), ⟨_, _, _, b5.chg k (hd _ (by omega))⟩, ⟨_, _, _, b6.chg k (hd _ (by omega))⟩, rG.chg k (fun b _ h1 h2 => hd b (by have h3 : b < N := h1; omega) h2), rl.chg k (fun b _ h1 _ h2 => hd b (by have h3 : b < N := h1; omega) h2), rI.chg k (fun b _ h1 h2 => hd b (by have h3 : b < N := h1; omega) h2), ne⟩
end
noncomputable abbrev bytB (G : List Int) (l : List Stp) (size : Nat) (set : List Int) : List UInt8 := (datA (l.map Stp.abs) (srt (G ++ set))).take size
def GotF (N2 : Nat) (w : World) (g5 g6 : Nat) (G : List Int) (l : List Stp) (size : Nat) (cs : Option (List Int)) : Prop := ∀ out, cs = some out → Got N2 w g5 g6 size (bytB G l size out) (srt (G ++ out))
theorem GotF.pure {N2 g5 g6 size : Nat} {w w' : World} {G : List Int} {l : List Stp} {cs : Option (List Int)} (h : GotF N2 w g5 g6 G l size cs) (k : Chg Nob w w') : GotF N2 w' g5 g6 G l size cs := fun out ho => (h out ho).pure k
set_option maxHeartbeats 8000000 in
theorem try_calls {N g1 g2 g3 g4 g5 g6 gc lc size : Nat} {ga la : Option Addr} {G : List Int} {l : List Stp} {sum : ByteArray} (hG3 : G.length ≤ 90) (hl8 : l.length ≤ 8) (hsz : 1 ≤ size ∧ size ≤ 128 * kR l) (hk8 : kR l ≤ 100) (hs1 : size ≤ 1024) :
    ∀ (n : Nat) {w : World} {ra sa : Option Addr} {rc sc : Nat} {rest set : List Int}, FE N w g1 g2 g3 g4 g5 g6 ga gc G la lc l size sum → RSl (· < N) w ei ra rc rest → RSl (fun x => x ≠ g5 ∧ x ≠ g6) w ei sa sc set → rest.length ≤ 100 → set.length + n ≤ 90 →
      (∀ out : List Int, out.length = set.length + n → ∀ s ∈ l, OkCol s.abs.1 s.abs.2 (srt (G ++ out))) →
      Calls Tryz.prog 53 [.slice ra rest.length rc, vi (n : Nat), .slice sa set.length sc, fnFit g1 g2 g3 g4 g5 g6].toArray w (Ret fun v w' => v = .bool ((combos rest n set).find? (fitB G l size sum)).isSome ∧ FE N w' g1 g2 g3 g4 g5 g6 ga gc G la lc l size sum ∧ (∀ out, (combos rest n set).find? (fitB G l size sum) = some out → Got w.heap.size w' g5 g6 size (bytB G l size out) (srt (G ++ out))) ∧ Chg (fun x => x = g5 ∨ x = g6) w w') := by
  intro n
  induction n with
  | zero =>
    intro w ra sa rc sc rest set hE hrest hset hrl hsl hok
    have hw := Chg.refl (fun x => x = g5 ∨ x = g6) w
    refine Calls.of_WC Tryz.func53 rfl Tryz.ntmps53 (by simp) ?_
    refine WC.seq (WC.region (WL.assign rfl rfl (WL.nil (WX.then_normal (WC.seq (WC.seq (WC.region (?_))))))))
    refine WL.move rfl rfl (?_)
    refine WL.eqlT rfl rfl rfl (by rfl) ?_
    refine WL.nil (WX.then_normal (WC.cond_true rfl (WC.seq (WC.region (WL.move rfl rfl (WL.move rfl rfl (?_)))))))
    refine WL.callv eg_49 rfl rfl rfl (fits_calls hE hset (by omega) (by omega) (hok set rfl) hl8 hsz hk8 hs1) ?_
    rintro v w2 ⟨rfl, hE2, hgot, k2⟩
    refine WL.assign rfl rfl (WL.nil (WX.then_normal (WC.ret (WX.then_ret (?_)))))
    refine WX.ret1 (.inl rfl) Tryz.results53 rfl ?_
    rw [combos_zero]
    rcases hf : fitB G l size sum set with _ | _
    ·
      exact ⟨_, rfl, by rw [List.find?_cons_of_neg (by simp [hf])]; rfl, hE2, (fun out ho => by rw [List.find?_cons_of_neg (by simp [hf])] at ho; cases ho), k2⟩
    ·
      exact ⟨_, rfl, by rw [List.find?_cons_of_pos (by simp [hf])]; rfl, hE2, (fun out ho => by rw [List.find?_cons_of_pos (by simp [hf])] at ho; injection ho with ho; subst ho; exact hgot hf), k2⟩
  | succ n ih =>
    intro w ra sa rc sc rest set hE hrest hset hrl hsl hok
    have hw := Chg.refl (fun x => x = g5 ∨ x = g6) w
    have hne := hE.ne
    refine Calls.of_WC Tryz.func53 rfl Tryz.ntmps53 (by simp) ?_
    refine WC.seq (WC.region (WL.assign rfl rfl (WL.nil (WX.then_normal (WC.seq (WC.seq (WC.region (?_))))))))
    refine WL.move rfl rfl (?_)
    refine WL.eqlF rfl rfl rfl (by omega) ?_
    refine WL.nil (WX.then_normal (WC.cond_false rfl (WC.skip (WX.then_normal (WC.seq (WC.seq (WC.region (?_))))))))
    refine WL.move rfl rfl (WL.len Tryz.underlying39 rfl rfl (WL.move rfl rfl (WL.nil (WX.then_normal (WC.block (?_))))))
    refine WC.loop (σ := Nat) (fun i => [(0, .slice ra rest.length rc), (1, vi ((n + 1 : Nat) : Int)), (2, .slice sa set.length sc), (3, fnFit g1 g2 g3 g4 g5 g6), (16, .slice ra rest.length rc), (17, vi rest.length), (18, vi (i : Int))])
      (fun i w' => i ≤ rest.length ∧ FE N w' g1 g2 g3 g4 g5 g6 ga gc G la lc l size sum ∧ RSl (· < N) w' ei ra rc rest ∧ RSl (fun x => x ≠ g5 ∧ x ≠ g6) w' ei sa sc set ∧ (combos rest (n + 1) set).find? (fitB G l size sum) = (combos (rest.drop i) (n + 1) set).find? (fitB G l size sum) ∧ Chg (fun x => x = g5 ∨ x = g6) w w') (fun i => rest.length - i) 0 ⟨rfl, rfl, rfl, rfl, rfl, rfl, rfl, trivial⟩ ⟨Nat.zero_le _, hE, hrest, hset, rfl, hw⟩ ?_
    clear hE hrest hset hw
    rintro i w1 ⟨hi, hE, hrest, hset, hco, hw⟩
    have zw1 := hw.size
    refine WC.seq (WC.region (?_))
    refine WL.lss? rfl rfl rfl (fun h19 => ?_) (fun h19 => ?_)
    ·
      refine WL.nil (WX.then_normal (WC.seq (WC.cond_true rfl (WC.skip (WX.then_normal (WC.seq (WC.block (?_))))))))
      refine WC.seq (WC.region (WL.move rfl rfl (?_)))
      obtain ⟨d, hd⟩ : ∃ d, rest[i]? = some d := ⟨_, List.getElem?_eq_getElem (by omega)⟩
      refine WL.indexT Tryz.underlying39 Tryz.sizeOf3 hrest rfl rfl ⟨hd, rfl⟩ rfl ?_
      intro b_1 o_1 hc_1
      refine WL.load Tryz.isAgg3 rfl (hc_1 0 _ rfl) rfl (WL.assign rfl rfl (WL.assign rfl rfl (WL.nil (WX.then_normal (WC.seq (?_))))))
      have hcut := hrest.cut (i + 1) rest.length ⟨by omega, Nat.le_refl _⟩
      rw [List.take_length] at hcut
      replace hset := hset.lt
      have hz := Chg.refl Nob w1
      refine WC.drawM ((fun x => x = g5 ∨ x = g6)) [0, 1, 2, 3, 4, 5, 6, 8, 11] [7, 9, 10, 12] mixed rfl rfl (fun wd_2 kd_2 zd_2 => ?_)
      replace hE := hE.pure kd_2
      replace hrest := hrest.pure kd_2
      replace hset := hset.pure kd_2
      replace hw := hw.pure kd_2
      replace hcut := hcut.pure kd_2
      replace hz := hz.pure kd_2
      apply DQT.step (E' := [(0, _)])
      case ho => rfl
      case hs => exact ⟨rfl, trivial⟩
      case hk => rfl
      case h1 =>
        intro wq_4 kq_4
        refine WL.move rfl rfl (?_)
        refine WL.nil ?_
        exact WX.one ⟨rfl, by exact Chg.refl _ _⟩
      apply DQT.step (E' := [(9, _)])
      case ho => rfl
      case hs => exact ⟨rfl, trivial⟩
      case hk => rfl
      case h1 =>
        intro wq_5 kq_5
        refine WL.move rfl rfl (?_)
        refine WL.nil ?_
        exact WX.one ⟨rfl, by exact Chg.refl _ _⟩
      apply DQT.step (E' := [(24, _)])
      case ho => rfl
      case hs => exact ⟨rfl, trivial⟩
      case hk => rfl
      case h1 =>
        intro wq_6 kq_6
        refine WL.add64 rfl rfl (by constructor <;> omega) rfl ?_
        refine WL.nil ?_
        exact WX.one ⟨rfl, by exact Chg.refl _ _⟩
      apply DQT.step (E' := [(23, _), (25, _)])
      case ho => rfl
      case hs => exact ⟨rfl, rfl, trivial⟩
      case hk => rfl
      case h1 =>
        intro wq_7 kq_7
        replace hrest := hrest.chg kq_7 (by intro b h1 h2 h3; have h4 : b < N := h2; rcases h3 with h5 | h5 <;> omega)
        refine WL.sliceC (l := i + 1) (h := rest.length) (j := .i64) Tryz.underlying39 Tryz.sizeOf3 hrest rfl (.inl rfl) (.inr ⟨rfl, rfl⟩) (by constructor <;> omega) rfl ?_
        rw [List.take_length]
        refine WL.nil ?_
        exact WX.one ⟨rfl, by exact Chg.refl _ _⟩
      apply DQT.step (E' := [(1, _)])
      case ho => rfl
      case hs => exact ⟨rfl, trivial⟩
      case hk => rfl
      case h1 =>
        intro wq_8 kq_8
        refine WL.move rfl rfl (?_)
        refine WL.nil ?_
        exact WX.one ⟨rfl, by exact Chg.refl _ _⟩
      apply DQT.step (E' := [(27, _)])
      case ho => rfl
      case hs => exact ⟨rfl, trivial⟩
      case hk => rfl
      case h1 =>
        intro wq_9 kq_9
        refine WL.sub64 rfl rfl (by constructor <;> omega) rfl ?_
        rw [show ((n + 1 : Nat) : Int) - 1 = (n : Int) from by omega]
        refine WL.nil ?_
        exact WX.one ⟨rfl, by exact Chg.refl _ _⟩
      apply DQT.step (E' := [(2, _)])
      case ho => rfl
      case hs => exact ⟨rfl, trivial⟩
      case hk => rfl
      case h1 =>
        intro wq_10 kq_10
        refine WL.move rfl rfl (?_)
        refine WL.nil ?_
        exact WX.one ⟨rfl, by exact Chg.refl _ _⟩
      apply DQT.step (E' := [(10, _)])
      case ho => rfl
      case hs => exact ⟨rfl, trivial⟩
      case hk => rfl
      case h1 =>
        intro wq_11 kq_11
        refine WL.move rfl rfl (?_)
        refine WL.nil ?_
        exact WX.one ⟨rfl, by exact Chg.refl _ _⟩
      apply DQT.step (E' := [(3, _)])
      case ho => rfl
      case hs => exact ⟨rfl, trivial⟩
      case hk => rfl
      case h1 =>
        intro wq_12 kq_12
        refine WL.move rfl rfl (?_)
        refine WL.nil ?_
        exact WX.one ⟨rfl, by exact Chg.refl _ _⟩
      refine DQT.done (fun hd_3 => ?_)
      refine ⟨?_, ?_, trivial, trivial, trivial⟩
      refine DT.step [(29, _)] rfl ⟨rfl, trivial⟩ rfl (fun wq_13 kq_13 => ?_)
      replace hE := hE.pure kq_13
      replace hrest := hrest.pure kq_13
      replace hset := hset.pure kq_13
      replace hw := hw.pure kq_13
      replace hcut := hcut.pure kq_13
      replace hz := hz.pure kq_13
      replace hd_3 := hd_3.pure kq_13
      have l6c := hE.l6
      have z30 := hz.size
      refine WL.call eg_75 rfl rfl (zclone_calls hset (by omega)) ?_
      rintro v w30 ⟨⟨a30, c30, rfl, h30'⟩, k30⟩
      replace hE := hE.pure k30
      replace hrest := hrest.pure k30
      replace hset := hset.pure k30
      replace hw := hw.pure k30
      replace hcut := hcut.pure k30
      replace hz := hz.pure k30
      replace hd_3 := hd_3.pure k30
      have h30 : Row (fun x => g6 < x ∧ w1.heap.size ≤ x) w30 3 ei a30 c30 set := h30'.mono (fun x hx => by have h9 : _ ≤ x := hx; exact ⟨by omega, by omega⟩)
      clear h30'
      refine WL.nil (WX.one ⟨hd_3, ?_⟩)
      refine ⟨?_, trivial, trivial, trivial⟩
      refine DT.step [(31, _)] rfl ⟨rfl, trivial⟩ rfl (fun wq_14 kq_14 => ?_)
      replace hE := hE.pure kq_14
      replace hrest := hrest.pure kq_14
      replace hset := hset.pure kq_14
      replace hw := hw.pure kq_14
      replace hcut := hcut.pure kq_14
      replace hz := hz.pure kq_14
      replace hd_3 := hd_3.pure kq_14
      replace h30 := h30.pure kq_14
      refine WL.build (e := ei) [d] Tryz.underlying39 Tryz.sizeOf3 Tryz.zeroValue3 rfl rfl rfl (by simp [Value.cells] <;> rfl) (by decide) rfl ?_
      intro a_q32 w_q32 q32 l_q32 z_q32 k_q32
      replace hE := hE.pure k_q32
      replace hrest := hrest.pure k_q32
      replace hset := hset.pure k_q32
      replace hw := hw.pure k_q32
      replace hcut := hcut.pure k_q32
      replace hz := hz.pure k_q32
      replace hd_3 := hd_3.pure k_q32
      replace h30 := h30.pure k_q32
      refine WL.nil (WX.one ⟨hd_3, ?_⟩)
      refine ⟨?_, trivial, trivial⟩
      refine DT.step [(30, _), (32, _)] rfl ⟨rfl, rfl, trivial⟩ rfl (fun wq_15 kq_15 => ?_)
      replace hE := hE.pure kq_15
      replace hrest := hrest.pure kq_15
      replace hset := hset.pure kq_15
      replace hw := hw.pure kq_15
      replace hcut := hcut.pure kq_15
      replace hz := hz.pure kq_15
      replace hd_3 := hd_3.pure kq_15
      replace h30 := h30.pure kq_15
      replace q32 := q32.pure kq_15
      have l6c := hE.l6
      have z33 := hz.size
      refine WL.append (e := ei) info_3 rfl Tryz.underlying39 rfl rfl h30 (q32.rsl.src Tryz.underlying39) (by constructor <;> (simp only [List.length_cons, List.length_nil]; omega)) (fun b hb => by have h9 : _ ≤ b := hb; exact ⟨by omega, by omega⟩) rfl ?_
      intro a33 c33 w33 h33 g33 n33
      replace hE := hE.hi g33.chg (fun b h1 h2 => by have := h2.2.1; omega)
      replace hrest := hrest.chg g33.chg (fun b _ h1 h2 => by have := h2.2.1; have h3 : b < N := h1; omega)
      replace hcut := hcut.chg g33.chg (fun b _ h1 h2 => by have := h2.2.1; have h3 : b < N := h1; omega)
      replace hset := hset.chg g33.chg (fun b _ h1 h2 => by have := h2.2.2; have := h1.2; omega)
      replace hw := hw.chg g33.chg (fun b h1 h2 => by have := h2.2.2; omega)
      replace hd_3 := hd_3.chg g33.chg (by intro x h1 h2; exfalso; have h3 := h2.2.2; omega)
      refine WL.nil (WX.one ⟨hd_3, ?_⟩)
      refine ⟨?_, trivial⟩
      refine DT.step [(26, _), (28, _), (33, _), (34, _)] rfl ⟨rfl, rfl, rfl, rfl, trivial⟩ rfl (fun wq_16 kq_16 => ?_)
      replace hE := hE.pure kq_16
      replace hrest := hrest.pure kq_16
      replace hset := hset.pure kq_16
      replace hw := hw.pure kq_16
      replace hcut := hcut.pure kq_16
      replace hd_3 := hd_3.pure kq_16
      replace h33 := h33.pure kq_16
      have zb := hw.size
      refine WL.call eg_53 rfl rfl (ih hE hcut (h33.rsl.mono (S' := fun x => x ≠ g5 ∧ x ≠ g6) (fun x hx => ⟨by omega, by omega⟩)) (by rw [List.length_drop]; omega) (by rw [List.length_append, List.length_singleton]; omega) (fun out ho => hok out (by rw [ho, List.length_append, List.length_singleton]; omega))) ?_
      rintro v w35 ⟨rfl, hE35, hgot, k35⟩
      obtain ⟨bo, hbo⟩ : ∃ bo, bo = ((combos (rest.drop (i + 1)) n (set ++ [d])).find? (fitB G l size sum)).isSome := ⟨_, rfl⟩
      rw [← hbo]
      have zw35 := hw.size
      replace hrest := hrest.chg k35 (fun b _ h1 h2 => by have h3 : b < N := h1; rcases h2 with h4 | h4 <;> omega)
      replace hset := (hset.chg k35 (fun b _ h1 h2 => h2.elim h1.1.1 h1.1.2)).mono (S' := fun x => x ≠ g5 ∧ x ≠ g6) (fun x hx => hx.1)
      replace hw := hw.chg k35 (fun b h1 h2 => h2)
      replace hd_3 := hd_3.chg k35 (by intro x h1 h2; exact h2)
      have hgf : GotF _ _ g5 g6 G l size ((combos (rest.drop (i + 1)) n (set ++ [d])).find? (fitB G l size sum)) := hgot
      clear hgot
      refine WL.nil (WX.one ⟨hd_3, ?_⟩)
      refine DT.done (fun we_17 ke_17 => ?_) _
      replace hrest := hrest.pure ke_17
      replace hset := hset.pure ke_17
      replace hw := hw.pure ke_17
      replace hd_3 := hd_3.pure ke_17
      replace hE35 := hE35.pure ke_17
      replace hgf := hgf.pure ke_17
      rotate_left
      refine DT.step [(31, _)] rfl ⟨rfl, trivial⟩ rfl (fun wq_13 kq_13 => ?_)
      replace hE := hE.pure kq_13
      replace hrest := hrest.pure kq_13
      replace hset := hset.pure kq_13
      replace hw := hw.pure kq_13
      replace hcut := hcut.pure kq_13
      replace hz := hz.pure kq_13
      replace hd_3 := hd_3.pure kq_13
      refine WL.build (e := ei) [d] Tryz.underlying39 Tryz.sizeOf3 Tryz.zeroValue3 rfl rfl rfl (by simp [Value.cells] <;> rfl) (by decide) rfl ?_
      intro a_q32 w_q32 q32 l_q32 z_q32 k_q32
      replace hE := hE.pure k_q32
      replace hrest := hrest.pure k_q32
      replace hset := hset.pure k_q32
      replace hw := hw.pure k_q32
      replace hcut := hcut.pure k_q32
      replace hz := hz.pure k_q32
      replace hd_3 := hd_3.pure k_q32
      refine WL.nil (WX.one ⟨hd_3, ?_⟩)
      refine ⟨?_, trivial, trivial, trivial⟩
      refine DT.step [(29, _)] rfl ⟨rfl, trivial⟩ rfl (fun wq_14 kq_14 => ?_)
      replace hE := hE.pure kq_14
      replace hrest := hrest.pure kq_14
      replace hset := hset.pure kq_14
      replace hw := hw.pure kq_14
      replace hcut := hcut.pure kq_14
      replace hz := hz.pure kq_14
      replace hd_3 := hd_3.pure kq_14
      replace q32 := q32.pure kq_14
      have l6c := hE.l6
      have z30 := hz.size
      refine WL.call eg_75 rfl rfl (zclone_calls hset (by omega)) ?_
      rintro v w30 ⟨⟨a30, c30, rfl, h30'⟩, k30⟩
      replace hE := hE.pure k30
      replace hrest := hrest.pure k30
      replace hset := hset.pure k30
      replace hw := hw.pure k30
      replace hcut := hcut.pure k30
      replace hz := hz.pure k30
      replace hd_3 := hd_3.pure k30
      replace q32 := q32.pure k30
      have h30 : Row (fun x => g6 < x ∧ w1.heap.size ≤ x) w30 3 ei a30 c30 set := h30'.mono (fun x hx => by have h9 : _ ≤ x := hx; exact ⟨by omega, by omega⟩)
      clear h30'
      refine WL.nil (WX.one ⟨hd_3, ?_⟩)
      refine ⟨?_, trivial, trivial⟩
      refine DT.step [(30, _), (32, _)] rfl ⟨rfl, rfl, trivial⟩ rfl (fun wq_15 kq_15 => ?_)
      replace hE := hE.pure kq_15
      replace hrest := hrest.pure kq_15
      replace hset := hset.pure kq_15
      replace hw := hw.pure kq_15
      replace hcut := hcut.pure kq_15
      replace hz := hz.pure kq_15
      replace hd_3 := hd_3.pure kq_15
      replace q32 := q32.pure kq_15
      replace h30 := h30.pure kq_15
      have l6c := hE.l6
      have z33 := hz.size
      refine WL.append (e := ei) info_3 rfl Tryz.underlying39 rfl rfl h30 (q32.rsl.src Tryz.underlying39) (by constructor <;> (simp only [List.length_cons, List.length_nil]; omega)) (fun b hb => by have h9 : _ ≤ b := hb; exact ⟨by omega, by omega⟩) rfl ?_
      intro a33 c33 w33 h33 g33 n33
      replace hE := hE.hi g33.chg (fun b h1 h2 => by have := h2.2.1; omega)
      replace hrest := hrest.chg g33.chg (fun b _ h1 h2 => by have := h2.2.1; have h3 : b < N := h1; omega)
      replace hcut := hcut.chg g33.chg (fun b _ h1 h2 => by have := h2.2.1; have h3 : b < N := h1; omega)
      replace hset := hset.chg g33.chg (fun b _ h1 h2 => by have := h2.2.2; have := h1.2; omega)
      replace hw := hw.chg g33.chg (fun b h1 h2 => by have := h2.2.2; omega)
      replace hd_3 := hd_3.chg g33.chg (by intro x h1 h2; exfalso; have h3 := h2.2.2; omega)
      refine WL.nil (WX.one ⟨hd_3, ?_⟩)
      refine ⟨?_, trivial⟩
      refine DT.step [(26, _), (28, _), (33, _), (34, _)] rfl ⟨rfl, rfl, rfl, rfl, trivial⟩ rfl (fun wq_16 kq_16 => ?_)
      replace hE := hE.pure kq_16
      replace hrest := hrest.pure kq_16
      replace hset := hset.pure kq_16
      replace hw := hw.pure kq_16
      replace hcut := hcut.pure kq_16
      replace hd_3 := hd_3.pure kq_16
      replace h33 := h33.pure kq_16
      have zb := hw.size
      refine WL.call eg_53 rfl rfl (ih hE hcut (h33.rsl.mono (S' := fun x => x ≠ g5 ∧ x ≠ g6) (fun x hx => ⟨by omega, by omega⟩)) (by rw [List.length_drop]; omega) (by rw [List.length_append, List.length_singleton]; omega) (fun out ho => hok out (by rw [ho, List.length_append, List.length_singleton]; omega))) ?_
      rintro v w35 ⟨rfl, hE35, hgot, k35⟩
      obtain ⟨bo, hbo⟩ : ∃ bo, bo = ((combos (rest.drop (i + 1)) n (set ++ [d])).find? (fitB G l size sum)).isSome := ⟨_, rfl⟩
      rw [← hbo]
      have zw35 := hw.size
      replace hrest := hrest.chg k35 (fun b _ h1 h2 => by have h3 : b < N := h1; rcases h2 with h4 | h4 <;> omega)
      replace hset := (hset.chg k35 (fun b _ h1 h2 => h2.elim h1.1.1 h1.1.2)).mono (S' := fun x => x ≠ g5 ∧ x ≠ g6) (fun x hx => hx.1)
      replace hw := hw.chg k35 (fun b h1 h2 => h2)
      replace hd_3 := hd_3.chg k35 (by intro x h1 h2; exact h2)
      have hgf : GotF _ _ g5 g6 G l size ((combos (rest.drop (i + 1)) n (set ++ [d])).find? (fitB G l size sum)) := hgot
      clear hgot
      refine WL.nil (WX.one ⟨hd_3, ?_⟩)
      refine DT.done (fun we_17 ke_17 => ?_) _
      replace hrest := hrest.pure ke_17
      replace hset := hset.pure ke_17
      replace hw := hw.pure ke_17
      replace hd_3 := hd_3.pure ke_17
      replace hE35 := hE35.pure ke_17
      replace hgf := hgf.pure ke_17
      rotate_left
      all_goals
        refine WX.then_normal (?_)
        first | refine WC.cond_dec rfl (fun hc35 => ?_) (fun hc35 => ?_) | refine WC.cond_split rfl (fun hc35 => ?_) (fun hc35 => ?_)
        ·
          refine WC.seq (WC.region (WL.assign rfl rfl (WL.nil (WX.then_normal (WC.ret (WX.block_ret (WX.then_ret (?_))))))))
          refine WX.then_ret (WX.block_ret (WX.then_ret (?_)))
          refine WX.ret1 (.inl rfl) Tryz.results53 rfl ?_
          have hh : bo = true := hc35
          obtain ⟨out, hout⟩ : ∃ out, (combos (rest.drop (i + 1)) n (set ++ [d])).find? (fitB G l size sum) = some out := Option.isSome_iff_exists.1 (by rw [← hbo, hh])
          have hhit := combos_hit hd hout
          rw [hco, hhit]
          exact ⟨_, rfl, rfl, hE35, fun o ho => by injection ho with ho; subst ho; exact (hgf _ hout).up zb, hw⟩
        ·
          refine WC.skip (WX.block_normal (WX.then_normal (WC.region (WL.add64 rfl rfl (by omega) rfl (WL.move rfl rfl (WL.nil (?_)))))))
          have hnone : (combos (rest.drop (i + 1)) n (set ++ [d])).find? (fitB G l size sum) = none := by
            rw [hc35] at hbo
            exact Option.not_isSome_iff_eq_none.1 (by rw [← hbo]; decide)
          exact WX.loop_next (i + 1) ⟨rfl, rfl, rfl, rfl, rfl, rfl, rfl, trivial⟩ ⟨by omega, hE35, hrest, hset, by rw [hco]; exact combos_drop hd hnone, hw⟩ (by omega)
    ·
      refine WL.nil (WX.then_normal (WC.seq (WC.cond_false rfl (WC.exit (WX.then_exit (WX.then_exit (WX.block_here (?_))))))))
      refine WX.then_normal (WC.seq (WC.region (WL.assign rfl rfl (WL.nil (WX.then_normal (WC.ret (?_)))))))
      refine WX.ret1 (.inl rfl) Tryz.results53 rfl ?_
      have hil : i = rest.length := by omega
      subst hil
      rw [List.drop_length, combos_nil] at hco
      rw [hco]
      exact ⟨_, rfl, rfl, hE, (fun o ho => by cases ho), hw⟩
end Go.Proofs.YtggecdldnpildaaGreat
namespace Go.Proofs.YtggecdldnpildaaGreat
open Go.RowKit Go.HL
set_option maxRecDepth 100000

/-! what a block's cells must hold -/
set_option maxHeartbeats 4000000 in
theorem layout_calls {S : Nat → Prop} {w : World} {a R n f : Nat} (hB : AB w a R n f) (hn : 5 ≤ n ∧ n ≤ 16) {ao : Option Addr} {c : Nat} {b : List UInt8} (hb : RSl S w eb ao c b) (hl : 1 ≤ b.length ∧ b.length ≤ 1024) :
    Calls Tryz.prog 41 [ptr a, .slice ao b.length c].toArray w (Ret fun v w' => (∃ a2 c2 rs, v = .tuple #[.slice a2 rs.length c2, vi 0] ∧ KR (w.heap.size ≤ ·) w' 26 5 a2 c2 rs ∧ rs.map Rw.xs = layA n b) ∧ Chg Nob w w') := by
  have hw := Chg.refl Nob w
  have la := hB.lt
  replace hb := hb.old
  have h8 := secsA_le hl.2
  have hsu := secsA_up (size := b.length)
  have hpl : (padA b).length = b.length + 128 := by simp [padA]
  refine Calls.of_WC Tryz.func41 rfl Tryz.ntmps41 (by simp) ?_
  refine WC.seq (WC.region (WL.assign rfl rfl (WL.assign rfl rfl (WL.nil (WX.then_normal (WC.seq (WC.region (?_))))))))
  refine WL.move rfl rfl (?_)
  refine WL.call eg_63 rfl rfl (jclone_calls hb hl.1 (by omega)) ?_
  rintro v w1 ⟨⟨g, c1, rfl, hq, hg1⟩, k1⟩
  have zs_k1 := k1.size
  replace hB := hB.pure k1
  replace hb := hb.pure k1
  replace hw := hw.pure k1
  have zw1 := hw.size
  refine WL.appendZs (m := 128) (S := fun x => w.heap.size ≤ x) info_5 Tryz.underlying26 Tryz.underlying3 rfl rfl (hq.mono (fun x hx => by have h2 : x = g := hx; omega)) ⟨by decide, by omega, by omega⟩ (fun x hx => by omega) rfl ?_
  intro ap cp w2 hP gP
  have kP : Chg Nob w w2 := hw.trans gP.chg (fun x hx hm => by obtain ⟨⟨a9, e9, rfl⟩, _⟩ := hm; injection e9 with e9; subst e9; exfalso; omega)
  replace hB := hB.chg gP.chg (fun hm => by have := hm.2; omega)
  replace hw := kP
  have zw2 := kP.size
  rw [show b ++ List.replicate 128 (0 : UInt8) = padA b from rfl] at hP ⊢
  replace hP := hP.rsk
  refine WL.assign rfl rfl (WL.nil (WX.then_normal (WC.seq (WC.region (WL.assign rfl rfl (WL.nil (WX.then_normal (?_))))))))
  refine WC.seq (WC.seq (WC.region (WL.move rfl rfl (WL.move rfl rfl (WL.len Tryz.underlying26 rfl rfl (?_))))))
  have h0n : (0 : Int) = ((0 : Nat) : Int) := rfl
  refine WL.call eg_39 rfl rfl (rows_calls hB hn 0 b.length (by omega) hl.2) ?_
  rintro v w3 ⟨⟨ar, cr, rfl, hr⟩, k3⟩
  have zs_k3 := k3.size
  replace hB := hB.pure k3
  replace hw := hw.pure k3
  replace hP := hP.pure k3
  refine WL.len Tryz.underlying82 rfl rfl (WL.move rfl rfl (WL.nil (WX.then_normal (WC.block (?_)))))
  obtain ⟨rows, hrows⟩ : ∃ rows, rows = rowsA n 0 (secsA b.length) := ⟨_, rfl⟩
  have hrl : rows.length ≤ 8 := by rw [hrows]; exact Nat.le_trans (rowsA_len (by omega) _ _) h8
  have hdat : datR rows = secsA b.length := by rw [hrows]; exact datR_rows (by omega) _ _
  have hlay : layR rows (padA b) = layA n b := by rw [hrows]; rfl
  rw [← hrows] at hr ⊢
  have zw0 := hw.size
  refine WC.loop (σ := Nat × ((Option Addr × Nat) × List Rw) × (Option Addr × Nat)) (fun q => [(0, ptr a), (6, .slice q.2.2.1 ((padA b).drop (128 * datR (rows.take q.1))).length q.2.2.2), (7, .slice q.2.1.1.1 q.2.1.2.length q.2.1.1.2), (19, .slice ar rows.length cr), (20, vi rows.length), (21, vi (q.1 : Int))])
    (fun q w' => q.1 ≤ rows.length ∧ RSK (w.heap.size ≤ ·) w' 5 eb q.2.2.1 q.2.2.2 ((padA b).drop (128 * datR (rows.take q.1))) ∧ KR (w.heap.size ≤ ·) w' 26 5 q.2.1.1.1 q.2.1.1.2 q.2.1.2 ∧ q.2.1.2.map Rw.xs = layR (rows.take q.1) (padA b) ∧ RSK (w.heap.size ≤ ·) w' 85 er2 ar cr rows ∧ Chg Nob w w') (fun q => rows.length - q.1) (0, ((none, 0), []), (ap, cp)) ⟨rfl, rfl, rfl, rfl, rfl, rfl, trivial⟩
    ⟨Nat.zero_le _, hP, KR.nil _ _ _ _, rfl, RSK.mono hr.rsk (fun x _ hx => by have h1 : _ ≤ x := hx; show w.heap.size ≤ x; omega), hw⟩ ?_
  clear hP hr hw hB
  rintro ⟨i, ⟨⟨ag, cg⟩, rs⟩, ap, cp⟩ w4 ⟨hi, hP, hG, hrs, hr, hw⟩
  simp only at hi hP hG hrs
  dsimp only
  have zw4 := hw.size
  replace hP := hP.low
  replace hG := hG.low
  replace hr := hr.low
  have hrslen : rs.length ≤ 160 := by
    have h1 : rs.length = (rs.map Rw.xs).length := by simp
    rw [h1, hrs, layR_len]
    have h2 := sumR_take rows i
    have h3 : sumR rows = costA n (secsA b.length) := by rw [hrows]; rfl
    have h4 := (costA_is hn h8).2
    omega
  refine WC.seq (WC.region (?_))
  refine WL.lss? rfl rfl rfl (fun h22 => ?_) (fun h22 => ?_)
  ·
    refine WL.nil (WX.then_normal (WC.seq (WC.cond_true rfl (WC.skip (WX.then_normal (WC.seq (WC.block (?_))))))))
    refine WC.seq (WC.region (?_))
    obtain ⟨x, hx⟩ : ∃ x, rows[i]? = some x := ⟨_, List.getElem?_eq_getElem (by omega)⟩
    have hxm := rowsA_mem (n := n) (by omega) _ _ _ (hrows ▸ List.mem_of_getElem? hx)
    have htk : datR (rows.take (i + 1)) = datR (rows.take i) + x.2 := by rw [List.take_add_one, hx, Option.toList_some]; simp [datR]
    have hdl : datR (rows.take (i + 1)) ≤ secsA b.length := by
      rw [← hdat]
      have : ∀ (l : List (Nat × Nat)) (j : Nat), datR (l.take j) ≤ datR l := fun l => by
        induction l with
        | nil => intro j; simp
        | cons y l ih =>
          intro j
          cases j with
          | zero => simp [datR]
          | succ j => have := ih j; rw [List.take_succ_cons, datR_cons, datR_cons]; omega
      exact this _ _
    have hr1 := RSK.rsl hr
    refine WL.indexT Tryz.underlying82 Tryz.sizeOf85 hr1 rfl rfl ⟨hx, rfl⟩ rfl ?_
    intro bb oo hcc
    refine WL.loads _ Tryz.isAgg85 Tryz.sizeOf85 rfl hcc rfl rfl (?_)
    refine WL.alloc Tryz.zeroValue85 rfl ?_
    intro g_1 w_1 hge_1 hlt_1 hb_1 k_1
    have zs_k_1 := k_1.size
    replace hP := hP.pure k_1
    replace hG := hG.pure k_1
    replace hr := hr.pure k_1
    replace hw := hw.pure k_1
    refine WL.stores Tryz.sizeOf85 hb_1 rfl rfl (by rfl) (by exact Enc.one _ _) (by exact Nat.le_of_ble_eq_true rfl) rfl ?_
    intro w_2 hs_2 hn_2 k_2
    have zs_k_2 := k_2.size
    replace hP := hP.chg k_2 (by intros; exfalso; (try dsimp only at *); omega)
    replace hG := hG.chg k_2 (by intro b h1 h2 h3; have h4 : _ = _ := h3; (try dsimp only at h2); exfalso; omega)
    replace hr := hr.chg k_2 (by intros; exfalso; (try dsimp only at *); omega)
    replace hw := hw.chg k_2 (by intro x h1 h2; have h3 : _ = _ := h2; exfalso; omega)
    replace hb_1 := hn_2
    refine WL.nil (WX.then_normal (WC.seq (WC.region (WL.assign rfl rfl (WL.nil (WX.then_normal (WC.seq (?_))))))))
    refine WC.seq (WC.region (WL.fieldAddr (fld_85_1) rfl rfl (WL.loadB Tryz.isAgg3 hb_1 rfl rfl rfl (WL.move rfl rfl (WL.nil (WX.then_normal (WC.block (?_))))))))
    obtain ⟨p0, hp0⟩ : ∃ p0, p0 = (padA b).drop (128 * datR (rows.take i)) := ⟨_, rfl⟩
    have hp0l : p0.length = (padA b).length - 128 * datR (rows.take i) := by rw [hp0, List.length_drop]
    have hpx : 128 * x.2 ≤ p0.length := by omega
    have hx2 : x.2 ≤ 8 := by omega
    rw [← hp0] at hP ⊢
    refine WC.loop (σ := Nat × ((Option Addr × Nat) × List Rw) × (Option Addr × Nat)) (fun q => [(0, ptr a), (6, .slice q.2.2.1 (p0.drop (128 * q.1)).length q.2.2.2), (7, .slice ag rs.length cg), (10, .slice q.2.1.1.1 q.2.1.2.length q.2.1.1.2), (19, .slice ar rows.length cr), (20, vi rows.length), (21, vi (i : Int)), (26, vi (x.2 : Nat)), (27, vi (q.1 : Int))])
      (fun q w' => q.1 ≤ x.2 ∧ RSK (fun b => w.heap.size ≤ b ∧ b < w4.heap.size) w' 5 eb q.2.2.1 q.2.2.2 (p0.drop (128 * q.1)) ∧ Row (w4.heap.size ≤ ·) w' 26 erow q.2.1.1.1 q.2.1.1.2 q.2.1.2 ∧ (∀ r ∈ q.2.1.2, RSK (w.heap.size ≤ ·) w' 5 eb r.ao r.cap r.xs) ∧ q.2.1.2.map Rw.xs = chunksA q.1 p0 ∧ KR (fun b => w.heap.size ≤ b ∧ b < w4.heap.size) w' 26 5 ag cg rs ∧ RSK (fun b => w.heap.size ≤ b ∧ b < w4.heap.size) w' 85 er2 ar cr rows ∧ Chg Nob w w' ∧ w4.heap.size ≤ w'.heap.size) (fun q => x.2 - q.1) (0, ((none, 0), []), (ap, cp)) ⟨rfl, rfl, rfl, rfl, rfl, rfl, rfl, rfl, rfl, trivial⟩
      ⟨Nat.zero_le _, hP, Row.nil _ _ _ _, (by intro r hr; simp at hr), rfl, hG, hr, hw, by omega⟩ ?_
    clear hP hG hr hw
    rintro ⟨j, ⟨⟨ad, cd⟩, ds⟩, ap, cp⟩ w5 ⟨hj, hP, hDo, hDi, hds, hG, hr, hw, zw5⟩
    simp only at hj hP hDo hDi hds
    dsimp only
    have hdsl : ds.length = j := by
      have h1 : ds.length = (ds.map Rw.xs).length := by simp
      rw [h1, hds, chunksA_len]
    have zw5' := hw.size
    refine WC.seq (WC.region (?_))
    refine WL.lss? rfl rfl rfl (fun h28 => ?_) (fun h28 => ?_)
    ·
      refine WL.nil (WX.then_normal (WC.seq (WC.cond_true rfl (WC.skip (WX.then_normal (WC.seq (WC.block (?_))))))))
      refine WC.seq (WC.region (WL.move rfl rfl (WL.move rfl rfl (?_))))
      have h27 : (j : Int) < x.2 := by assumption
      have hpj : (p0.drop (128 * j)).length = p0.length - 128 * j := by rw [List.length_drop]
      have hcap := hP.rsl.cap
      have hlen : ((p0.drop (128 * j)).take 128).length = 128 := by rw [List.length_take]; omega
      have hPc : RSK (fun b => w.heap.size ≤ b ∧ b < w4.heap.size) w5 5 eb (cutAt ap 128 0 1) 128 ((p0.drop (128 * j)).take 128) := RSl.top hP (by omega) ⟨by omega, by omega, by omega⟩
      refine WL.sliceM (h := ((p0.drop (128 * j)).take 128).length) (m := 128) Tryz.underlying26 Tryz.sizeOf5 rfl (by show some (vi 128) = some (vi (((p0.drop (128 * j)).take 128).length : Int)); rw [hlen]; rfl) rfl ⟨by omega, by omega⟩ rfl ?_
      refine WL.build (e := erow) [⟨cutAt ap 128 0 1, 128, (p0.drop (128 * j)).take 128⟩] Tryz.underlying87 Tryz.sizeOf26 Tryz.zeroValue26 rfl rfl rfl (by simp [Value.cells] <;> rfl) (by decide) rfl ?_
      intro a_q32 w_q32 q32 l_q32 z_q32 k_q32
      have zs_k_q32 := k_q32.size
      replace hP := hP.pure k_q32
      replace hDo := hDo.pure k_q32
      replace hG := hG.pure k_q32
      replace hr := hr.pure k_q32
      replace hw := hw.pure k_q32
      replace hPc := hPc.pure k_q32
      refine WL.append (e := erow) info_26 rfl Tryz.underlying87 rfl rfl hDo (q32.rsl.src Tryz.underlying87) (by constructor <;> (simp only [List.length_cons, List.length_nil]; omega)) (fun b hb => by have h9 : _ ≤ b := hb; show w4.heap.size ≤ b; omega) rfl ?_
      intro a9 c9 w9 hDo9 g9 n9
      have hDi9 : ∀ r ∈ ds ++ [⟨cutAt ap 128 0 1, 128, (p0.drop (128 * j)).take 128⟩], RSK (w.heap.size ≤ ·) w9 5 eb r.ao r.cap r.xs := fun r hr => by
        rcases List.mem_append.1 hr with h1 | h1
        ·
          exact ((hDi r h1).pure k_q32).grow hDo g9 (by decide)
        ·
          rw [List.mem_singleton] at h1
          subst h1
          exact RSK.mono (hPc.grow hDo g9 (by decide)) (fun b _ hb => hb.1)
      replace hP := hP.grow hDo g9 (by decide)
      replace hr := hr.grow hDo g9 (by decide)
      replace hG := hG.chg g9.chg (fun b _ h1 h2 => by have := h1.2; have := h2.2; omega)
      replace hw := hw.chg g9.chg (fun b h1 h2 => by have := h2.2; omega)
      have z9 := g9.chg.size
      refine WL.assign rfl rfl (WL.nil (WX.then_normal (WC.region (WL.move rfl rfl (?_)))))
      refine WL.slice (l := 128) (h := (p0.drop (128 * j)).length) (j := .i64) (e := eb) Tryz.underlying26 Tryz.sizeOf5 hP rfl (.inl rfl) (.inr ⟨rfl, rfl⟩) ⟨by omega, Nat.le_refl _⟩ rfl ?_
      intro ap2 cp2 hP2 _
      have ep : ((p0.drop (128 * j)).take (p0.drop (128 * j)).length).drop 128 = p0.drop (128 * (j + 1)) := by rw [List.take_length, List.drop_drop, show 128 * j + 128 = 128 * (j + 1) from by omega]
      rw [ep] at hP2 ⊢
      refine WL.assign rfl rfl (WL.nil (WX.block_normal (WX.then_normal (WC.region (WL.add64 rfl rfl (by omega) rfl (WL.move rfl rfl (WL.nil (?_))))))))
      exact WX.loop_next (j + 1, ((a9, c9), ds ++ [⟨cutAt ap 128 0 1, 128, (p0.drop (128 * j)).take 128⟩]), (ap2, cp2)) ⟨rfl, rfl, rfl, rfl, rfl, rfl, rfl, rfl, rfl, trivial⟩ ⟨by show j + 1 ≤ x.2; omega, hP2, hDo9, hDi9, by show (ds ++ [_]).map Rw.xs = chunksA (j + 1) p0; rw [chunksA_snoc, List.map_append, hds]; rfl, hG, hr, hw, by omega⟩ (by show x.2 - (j + 1) < x.2 - j; omega)
    ·
      refine WL.nil (WX.then_normal (WC.seq (WC.cond_false rfl (WC.exit (WX.then_exit (WX.then_exit (WX.block_here (?_))))))))
      refine WX.then_normal (WC.seq (WC.region (WL.move rfl rfl (?_))))
      have hjx : j = x.2 := by omega
      have hcs : ∀ d ∈ xss ds, d.length = 128 := fun d hd => by
        have hd' : d ∈ ds.map Rw.xs := hd
        rw [hds] at hd'
        exact chunksA_all j p0 (by omega) d hd'
      have hne : xss ds ≠ [] := fun e => by
        have h1 : (xss ds).length = ds.length := xss_len ds
        rw [e] at h1
        simp at h1
        omega
      have hRS : RS (w.heap.size ≤ ·) w5 ad cd ds := ⟨hDo.rsl.mono (fun b hb => by have h9 : _ ≤ b := hb; show w.heap.size ≤ b; omega), fun r hr => (hDi r hr).rsl⟩
      refine WL.call eg_66 rfl rfl (make_good (n := 128) hRS (by omega) (by rw [lenC_of hne hcs]; rfl)) ?_
      rintro v w6 ⟨⟨go, gs, rfl, hO, hgs, hgo⟩, k6⟩
      replace hDi : ∀ r ∈ ds, RSK (w.heap.size ≤ ·) w6 5 eb r.ao r.cap r.xs := fun r hr => (hDi r hr).pure k6
      have zs_k6 := k6.size
      replace hP := hP.pure k6
      replace hDo := hDo.pure k6
      replace hG := hG.pure k6
      replace hr := hr.pure k6
      replace hw := hw.pure k6
      have hK : KS2 (fun b => w5.heap.size ≤ b) w6 26 5 (some ⟨go, 0, none⟩) 3 (orows gs 128 (three (xss ds) 128 ds.length)) := hO.ks (fun b hb => by omega)
      have hKl : (orows gs 128 (three (xss ds) 128 ds.length)).length = 3 := by rw [orows_len hO.len, hgs]
      have hKx : (orows gs 128 (three (xss ds) 128 ds.length)).map Rw.xs = three (chunksA x.2 p0) 128 x.2 := by
        have h1 := xss_orows (gs := gs) (n := 128) (ys := three (xss ds) 128 ds.length) hO.len
        have h2 : xss ds = chunksA j p0 := hds
        rw [show (orows gs 128 (three (xss ds) 128 ds.length)).map Rw.xs = xss (orows gs 128 (three (xss ds) 128 ds.length)) from rfl, h1, h2, hdsl, hjx]
      clear hO
      refine WL.move rfl rfl (WL.extract rfl rfl rfl (WL.extract rfl rfl rfl (WL.assign rfl rfl (WL.assign rfl rfl (WL.nil (WX.then_normal (WC.seq (?_))))))))
      refine WC.seq (WC.region (WL.move rfl rfl (?_)))
      refine WL.neqF rfl rfl rfl (by rfl) ?_
      refine WL.nil (WX.then_normal (WC.cond_false rfl (WC.skip (WX.then_normal (WC.region (WL.move rfl rfl (WL.move rfl rfl (?_))))))))
      have z6 := k6.size
      have hGs : ∀ b, Eqb ag b → b < w4.heap.size := fun b hb => (hG.outer.at_.eqb hb).2
      have hG1 : KR (w.heap.size ≤ ·) w6 26 5 ag cg rs := hG.mono (fun b hb => hb.1)
      refine WL.append (e := erow) (ys := orows gs 128 (three (xss ds) 128 ds.length)) info_26 rfl Tryz.underlying87 rfl (by show some (Value.slice (some ⟨go, 0, none⟩) 3 3) = some (Value.slice (some ⟨go, 0, none⟩) (orows gs 128 (three (xss ds) 128 ds.length)).length 3); rw [hKl]) hG1.outer (hK.outer.rsl.src Tryz.underlying87) (by constructor <;> omega) (fun b hb => by have h9 : _ ≤ b := hb; show w.heap.size ≤ b; omega) rfl ?_
      intro a7 c7 w7 hG7 g7 n7
      have hG7k := hG1.app (by decide) (fun r hr => RSK.mono (hK.inner r hr) (fun b _ hb => by show w.heap.size ≤ b; omega)) hG7 g7
      have z7 := g7.chg.size
      replace hDo := hDo.chg g7.chg (fun b _ h1 h2 => by have := hGs b h2.1; have h9 : _ ≤ b := h1; omega)
      replace hDi : ∀ r ∈ ds, RSK (w.heap.size ≤ ·) w7 5 eb r.ao r.cap r.xs := fun r hr => (hDi r hr).grow hG1.outer g7 (by decide)
      replace hP := hP.grow hG1.outer g7 (by decide)
      replace hr := hr.grow hG1.outer g7 (by decide)
      replace hw := hw.chg g7.chg (fun b h1 h2 => by have := h2.2; omega)
      refine WL.move rfl rfl (?_)
      refine WL.append (e := erow) (xs := rs ++ orows gs 128 (three (xss ds) 128 ds.length)) info_26 rfl Tryz.underlying87 rfl rfl hG7k.outer (hDo.rsl.src Tryz.underlying87) (by rw [List.length_append, hKl]; constructor <;> omega) (fun b hb => by have h9 : _ ≤ b := hb; show w.heap.size ≤ b; omega) rfl ?_
      intro a8 c8 w8 hG8 g8 n8
      have hG8k := hG7k.app (by decide) hDi hG8 g8
      have z8 := g8.chg.size
      replace hP := hP.grow hG7k.outer g8 (by decide)
      replace hr := hr.grow hG7k.outer g8 (by decide)
      replace hw := hw.chg g8.chg (fun b h1 h2 => by have := h2.2; omega)
      refine WL.assign rfl rfl (WL.nil (WX.block_normal (WX.then_normal (WC.region (WL.add64 rfl rfl (by omega) rfl (WL.move rfl rfl (WL.nil (?_))))))))
      have ep : p0.drop (128 * j) = (padA b).drop (128 * datR (rows.take (i + 1))) := by rw [hp0, List.drop_drop, htk, hjx, Nat.mul_add]
      rw [ep] at hP ⊢
      refine WX.loop_next (i + 1, ((a8, c8), rs ++ orows gs 128 (three (xss ds) 128 ds.length) ++ ds), (ap, cp)) ⟨rfl, rfl, rfl, rfl, rfl, rfl, trivial⟩ ⟨by show i + 1 ≤ rows.length; omega, RSK.mono hP (fun b _ hb => hb.1), hG8k, ?_, RSK.mono hr (fun b _ hb => hb.1), hw⟩ (by show rows.length - (i + 1) < rows.length - i; omega)
      show (rs ++ orows gs 128 (three (xss ds) 128 ds.length) ++ ds).map Rw.xs = layR (rows.take (i + 1)) (padA b)
      rw [List.map_append, List.map_append, hrs, hKx, hds, hjx, List.take_add_one, hx, Option.toList_some, layR_append, ← hp0, layR, layR, List.append_nil, List.append_assoc]
  ·
    refine WL.nil (WX.then_normal (WC.seq (WC.cond_false rfl (WC.exit (WX.then_exit (WX.then_exit (WX.block_here (?_))))))))
    refine WX.then_normal (WC.seq (WC.region (WL.move rfl rfl (WL.assign rfl rfl (WL.assign rfl rfl (WL.nil (WX.then_normal (?_))))))))
    refine WC.ret (?_)
    refine WX.ret2 (.inl rfl) Tryz.results41 rfl rfl ?_
    have hil : i = rows.length := by omega
    subst hil
    rw [List.take_length, hlay] at hrs
    exact ⟨_, rfl, ⟨ag, cg, rs, rfl, hG.mono (fun b hb => hb.1), hrs⟩, hw⟩
end Go.Proofs.YtggecdldnpildaaGreat
namespace Go.Proofs.YtggecdldnpildaaGreat
open Go.RowKit Go.HL
set_option maxRecDepth 100000

/-! a block is written -/
theorem bdrv_in {s : RA} {addr size : Nat} (h5 : 5 ≤ s.dn) : ∀ d ∈ bdrv s addr size, isS s d := fun d hd => by
  obtain ⟨j, _, _, rfl⟩ := drvA_in (by omega) hd
  have := Nat.mod_lt (addr + j) (show 0 < s.dn by omega)
  exact ⟨by omega, by omega⟩
theorem bdrv_len {s : RA} {addr size : Nat} (hd : s.dn ≤ 16) : (bdrv s addr size).length ≤ 16 := by rw [drvA_len]; omega
theorem layA_all (n : Nat) (b : List UInt8) (hn : 4 ≤ n) : ∀ c ∈ layA n b, c.length = 128 := by
  refine layR_all _ _ ?_
  rw [datR_rows hn]
  have := secsA_up (size := b.length)
  simp [padA]
  omega
set_option maxHeartbeats 2000000 in
theorem awrite_good {A S : Nat → Prop} {w : World} {a R f : Nat} {s : RA} (hB : AB w a R s.dn f) (hna : ¬ A a) (h : RK A w R s) (hA : ∀ x, A x → x < w.heap.size) (hu : Up s) (h5 : 5 ≤ s.dn) (hf : f < s.sn) (addr : Nat) {ao : Option Addr} {c : Nat} {b : List UInt8} (hb : RSl S w eb ao c b) (hl : 1 ≤ b.length ∧ b.length ≤ 1024)
    (ha : addr + costA s.dn (secsA b.length) ≤ s.dn * (s.sn - f)) (hn : s.waits.length ≤ 90000) (hg : (bgon s addr b.length).length ≤ 3) :
    Calls Tryz.prog 17 [ptr a, vi addr, .slice ao b.length c].toArray w (Ret fun v w' => v = vi 0 ∧ RK (fun x => A x ∨ w.heap.size ≤ x) w' R (wrT s f addr (layA s.dn b) (layA s.dn b).length) ∧ Chg A w w') := by
  have hw := Chg.refl Nob w
  have la := hB.lt
  have hdn := h.ok.dn
  have hsn := h.ok.sn
  have hR := hA R h.aR
  replace hb := hb.old
  have hm : s.dn * (s.sn - f) ≤ 16 * 2000 := Nat.mul_le_mul (by omega) (by omega)
  refine Calls.of_WC Tryz.func17 rfl Tryz.ntmps17 (by simp) ?_
  refine WC.seq (WC.region (WL.assign rfl rfl (WL.nil (WX.then_normal (WC.seq (WC.region (WL.move rfl rfl (?_))))))))
  refine WL.move rfl rfl (WL.move rfl rfl (WL.len Tryz.underlying26 rfl rfl (?_)))
  refine WL.call eg_21 rfl rfl (drives_good hB h h5 hf addr b.length hl ha) ?_
  rintro v w1 ⟨⟨a1, c1, rfl, hD⟩, k1⟩
  have zs_k1 := k1.size
  replace hB := hB.pure k1
  replace h := h.pure k1
  replace hb := hb.pure k1
  replace hw := hw.pure k1
  refine WL.move rfl rfl (WL.extract rfl rfl rfl (WL.extract rfl rfl rfl (WL.assign rfl rfl (WL.assign rfl rfl (WL.nil (WX.then_normal (WC.seq (?_))))))))
  refine WC.seq (WC.region (WL.move rfl rfl (?_)))
  refine WL.neqF rfl rfl rfl (by rfl) ?_
  refine WL.nil (WX.then_normal (WC.cond_false rfl (WC.skip (WX.then_normal (WC.seq (WC.seq (WC.region (?_))))))))
  refine WL.move rfl rfl (WL.move rfl rfl (?_))
  refine WL.call eg_40 rfl rfl (gone_calls hB h hD.rsl (bdrv_in h5) (Nat.le_trans (bdrv_len hdn.2) (by decide))) ?_
  rintro v w2 ⟨hgood, _, k2⟩
  obtain ⟨a2, c2, rfl, hG⟩ := hgood hg
  have zs_k2 := k2.size
  replace hB := hB.pure k2
  replace h := h.pure k2
  replace hb := hb.pure k2
  replace hw := hw.pure k2
  refine WL.move rfl rfl (WL.extract rfl rfl rfl (WL.extract rfl rfl rfl (WL.assign rfl rfl (WL.assign rfl rfl (WL.nil (WX.then_normal (WC.seq (?_))))))))
  refine WC.region (WL.move rfl rfl (?_))
  refine WL.neqF rfl rfl rfl (by rfl) ?_
  refine WL.nil (WX.then_normal (WC.cond_false rfl (WC.skip (WX.then_normal (WC.seq (WC.region (WL.move rfl rfl (?_))))))))
  refine WL.move rfl rfl (?_)
  refine WL.call eg_41 rfl rfl (layout_calls hB ⟨h5, hdn.2⟩ hb hl) ?_
  rintro v w3 ⟨⟨a3, c3, rs, rfl, hK, hx⟩, k3⟩
  have zw2 := hw.size
  have zs_k3 := k3.size
  replace hB := hB.pure k3
  replace h := h.pure k3
  replace hb := hb.pure k3
  replace hw := hw.pure k3
  refine WL.move rfl rfl (WL.extract rfl rfl rfl (WL.extract rfl rfl rfl (WL.assign rfl rfl (WL.assign rfl rfl (WL.nil (WX.then_normal (WC.seq (?_))))))))
  refine WC.seq (WC.region (WL.move rfl rfl (?_)))
  refine WL.neqF rfl rfl rfl (by rfl) ?_
  refine WL.nil (WX.then_normal (WC.cond_false rfl (WC.skip (WX.then_normal (WC.seq (WC.seq (WC.region (?_))))))))
  refine WL.move rfl rfl (WL.len Tryz.underlying87 rfl rfl (WL.move rfl rfl (WL.nil (WX.then_normal (WC.block (?_))))))
  have zw3 := hw.size
  obtain ⟨n0, hn0⟩ : ∃ n0, n0 = w3.heap.size := ⟨_, rfl⟩
  obtain ⟨cells, hcells⟩ : ∃ cells, cells = layA s.dn b := ⟨_, rfl⟩
  have hcl : cells.length = costA s.dn (secsA b.length) := by rw [hcells, layA_len _ _ (by omega)]
  have hrl : rs.length = cells.length := by rw [hcells, ← hx]; simp
  have h20 := (costA_is ⟨h5, hdn.2⟩ (secsA_le hl.2)).2
  rw [← hcells] at hx ⊢
  have hK0 : KR (fun x => w.heap.size ≤ x ∧ x < n0) w3 26 5 a3 c3 rs := (hK.mono (S' := fun x => w.heap.size ≤ x) (fun x hx => by have h9 : _ ≤ x := hx; show w.heap.size ≤ x; omega)).low.mono (fun x hx => ⟨hx.1, by rw [hn0]; exact hx.2⟩)
  refine WC.loop (σ := Nat) (fun i => [(0, ptr a), (1, vi addr), (44, .slice a3 rs.length c3), (45, vi rs.length), (46, vi (i : Int))]) (fun i w' => i ≤ rs.length ∧ AB w' a R s.dn f ∧ KR (fun x => w.heap.size ≤ x ∧ x < n0) w' 26 5 a3 c3 rs ∧ RK (fun x => A x ∨ n0 ≤ x) w' R (wrT s f addr cells i) ∧ Chg A w w' ∧ n0 ≤ w'.heap.size) (fun i => rs.length - i) 0 ⟨rfl, rfl, rfl, rfl, rfl, trivial⟩ ⟨Nat.zero_le _, hB, hK0, h.mono (fun x hx => .inl hx), hw.mono (fun x _ hx => hx.elim), by omega⟩ ?_
  clear hB h hb hw hK hK0
  rintro i w4 ⟨hi, hB, hK, h, hw, zn⟩
  refine WC.seq (WC.region (?_))
  refine WL.lss? rfl rfl rfl (fun h47 => ?_) (fun h47 => ?_)
  ·
    refine WL.nil (WX.then_normal (WC.seq (WC.cond_true rfl (WC.skip (WX.then_normal (WC.seq (WC.block (?_))))))))
    refine WC.seq (WC.region (WL.move rfl rfl (?_)))
    obtain ⟨r, hr⟩ : ∃ r, rs[i]? = some r := ⟨_, List.getElem?_eq_getElem (by omega)⟩
    have hrc : cells[i]? = some r.xs := by rw [← hx, List.getElem?_map, hr]; rfl
    have hr128 : r.xs.length = 128 := layA_all s.dn b (by omega) _ (hcells ▸ List.mem_of_getElem? hrc)
    refine WL.indexT (e := erow) Tryz.underlying87 Tryz.sizeOf26 hK.outer.rsl rfl rfl ⟨hr, rfl⟩ rfl ?_
    intro bb oo hcc
    refine WL.load Tryz.isAgg26 rfl (hcc 0 _ rfl) rfl ?_
    refine WL.assign rfl rfl (WL.assign rfl rfl (WL.nil (WX.then_normal (WC.seq (WC.region (WL.move rfl rfl (WL.move rfl rfl (?_))))))))
    refine WL.move rfl rfl (?_)
    refine WL.add64 rfl rfl (by constructor <;> omega) rfl ?_
    rw [show ((addr : Int) + (i : Int)) = ((addr + i : Nat) : Int) from by omega]
    refine WL.move rfl rfl (?_)
    obtain ⟨d1, d2, d3, d4⟩ := wrT_dn s f addr cells i
    have hri : RSl (fun x => w.heap.size ≤ x ∧ x < n0) w4 eb r.ao r.cap r.xs := (hK.inner r (List.mem_of_getElem? hr)).rsl
    refine WL.call eg_42 rfl rfl (put_calls (s := wrT s f addr cells i) (by rw [d1]; exact hB) h (wrT_up hu _ _ _ _) (by rw [d1]; exact h5) (by rw [d2]; exact hf) (addr + i) (by rw [d1, d2]; omega) hri (fun x h1 h2 => by have := h1.1; omega) hr128 (by omega)) ?_
    rintro v w5 ⟨rfl, h5', k5⟩
    have z5 := k5.size
    replace hB := hB.chg k5 (fun hm => hm.elim hna (fun h9 => by omega))
    replace hK := hK.chg k5 (fun x h1 h2 h3 => h3.elim (fun h9 => by have := hA x h9; have := h2.1; omega) (fun h9 => by have := h2.2; omega))
    replace hw := hw.chg k5 (fun x h1 h2 => h2.elim id (fun h9 => by omega))
    have e5 : putS (wrT s f addr cells i) f (addr + i) r.xs = wrT s f addr cells (i + 1) := by rw [wrT, List.getD_eq_getElem?_getD, hrc]; rfl
    rw [e5] at h5'
    replace h := h5'.mono (A' := fun x => A x ∨ n0 ≤ x) (fun x hx => hx.elim id (fun h9 => .inr (by omega)))
    refine WL.assign rfl rfl (WL.nil (WX.then_normal (WC.seq (WC.region (WL.move rfl rfl (?_))))))
    refine WL.neqF rfl rfl rfl (by rfl) ?_
    refine WL.nil (WX.then_normal (WC.cond_false rfl (WC.skip (WX.block_normal (WX.then_normal (WC.region (WL.add64 rfl rfl (by omega) rfl (?_))))))))
    refine WL.move rfl rfl (WL.nil (?_))
    exact WX.loop_next (i + 1) ⟨rfl, rfl, rfl, rfl, rfl, trivial⟩ ⟨by omega, hB, hK, h, hw, by omega⟩ (by omega)
  ·
    refine WL.nil (WX.then_normal (WC.seq (WC.cond_false rfl (WC.exit (WX.then_exit (WX.then_exit (WX.block_here (?_))))))))
    refine WX.then_normal (WC.seq (WC.region (WL.assign rfl rfl (WL.nil (WX.then_normal (WC.ret (?_)))))))
    refine WX.ret1 (.inl rfl) Tryz.results17 rfl ?_
    have hil : i = cells.length := by omega
    subst hil
    exact ⟨_, rfl, rfl, h.mono (fun x hx => hx.imp id (fun h9 => by omega)), hw⟩
end Go.Proofs.YtggecdldnpildaaGreat
namespace Go.Proofs.YtggecdldnpildaaGreat
open Go.RowKit Go.HL
set_option maxRecDepth 100000

/-! a block is read -/
theorem kR_abs (l : List Stp) : kR l = ((l.map Stp.abs).map fun p => p.1.length - 3).sum := by
  rw [kR, List.map_map]
  congr 1
  refine List.map_congr_left (fun s _ => ?_)
  simp [Stp.abs]
theorem kR_str {s : RA} {f addr size : Nat} {l : List Stp} (h5 : 5 ≤ s.dn) (h : l.map Stp.abs = strA s f addr size) : kR l = secsA size := by
  rw [kR_abs, h, strA, List.map_map]
  have e : ((fun p : List (List UInt8) × List Int => p.1.length - 3) ∘ stpA s f) = fun r : Nat × Nat => r.2 := by
    funext r
    show (stpA s f r).1.length - 3 = r.2
    rw [(stpA_len s f r).1]
    omega
  rw [e]
  exact datR_rows (by omega) _ _
theorem str_ok {s : RA} (hok : s.ok) (h5 : 5 ≤ s.dn) {f addr size : Nat} {l : List Stp} (h : l.map Stp.abs = strA s f addr size) {out : List Int} (ho : (bgon s addr size).length + out.length ≤ 3) : ∀ st ∈ l, OkCol st.abs.1 st.abs.2 (srt (bgon s addr size ++ out)) := by
  intro st hst
  have h1 : st.abs ∈ strA s f addr size := by rw [← h]; exact List.mem_map.2 ⟨st, hst, rfl⟩
  rw [strA, List.mem_map] at h1
  obtain ⟨r, hr, e⟩ := h1
  rw [← e]
  have hm := rowsA_mem (n := s.dn) (by omega) _ _ _ hr
  rw [sumR_rows (by omega) _ _ 0] at hm
  refine stpA_ok hok ⟨hm.1.1, hm.1.2.1⟩ (by rw [srt_len, List.length_append]; exact ho) (fun c h1 h2 hg => ?_)
  rw [srt_mem, List.mem_append]
  refine .inl (gonA_cov (s := s) (a := addr) (cost := costA s.dn (secsA size)) (by omega) c (by omega) ?_ hg)
  show c < addr + sumR (rowsA s.dn 0 (secsA size))
  omega
set_option maxHeartbeats 8000000 in
theorem aread_good {A : Nat → Prop} {w : World} {a R f : Nat} {s : RA} (hB : AB w a R s.dn f) (h : RK A w R s) (hu : Up s) (h5 : 5 ≤ s.dn) (hf : f < s.sn) (addr size : Nat) (hs : 1 ≤ size ∧ size ≤ 1024) (ha : addr + costA s.dn (secsA size) ≤ s.dn * (s.sn - f)) (sum : ByteArray) (hsum : sum.size = 32) (hg : (bgon s addr size).length ≤ 3) :
    Calls Tryz.prog 19 [ptr a, vi addr, vi size, .string sum].toArray w (Ret fun v w' => (rdA s f addr size sum = none → v = .tuple #[.slice none 0 0, .slice none 0 0, vi 4]) ∧ (∀ t, rdA s f addr size sum = some t → ∃ fa fc ba bc, v = .tuple #[.slice fa (bytA s f addr size (srt (bgon s addr size ++ t))).length fc, .slice ba (srt (bgon s addr size ++ t)).length bc, vi 0] ∧ Row (w.heap.size ≤ ·) w' 5 eb fa fc (bytA s f addr size (srt (bgon s addr size ++ t))) ∧ Row (w.heap.size ≤ ·) w' 3 ei ba bc (srt (bgon s addr size ++ t)) ∧ (bytA s f addr size (srt (bgon s addr size ++ t))).length = size) ∧ Chg Nob w w') := by
  have hw := Chg.refl Nob w
  have la := hB.lt
  have hok := h.ok
  have hdn := h.ok.dn
  replace h := h.old
  refine Calls.of_WC Tryz.func19 rfl Tryz.ntmps19 (by simp) ?_
  refine WC.seq (WC.region (?_))
  refine WL.box rfl rfl ?_
  intro g3 w3 hge3 hlt3 hb3 k3
  have zs_k3 := k3.size
  replace hB := hB.pure k3
  replace h := h.pure k3
  replace hw := hw.pure k3
  refine WL.box rfl rfl ?_
  intro g4 w4 hge4 hlt4 hb4 k4
  have zs_k4 := k4.size
  replace hB := hB.pure k4
  replace h := h.pure k4
  replace hw := hw.pure k4
  replace hb3 := hb3.pure k4
  refine WL.assign rfl rfl (WL.assign rfl rfl (WL.assign rfl rfl (WL.nil (WX.then_normal (WC.seq (WC.region (WL.move rfl rfl (?_))))))))
  refine WL.move rfl rfl (WL.loadB Tryz.isAgg3 hb3 rfl rfl rfl (?_))
  refine WL.call eg_21 rfl rfl (drives_good hB h h5 hf addr size hs ha) ?_
  rintro v w5 ⟨⟨da, dc, rfl, hD⟩, k5⟩
  have zw4 := hw.size
  have zs_k5 := k5.size
  replace hB := hB.pure k5
  replace h := h.pure k5
  replace hw := hw.pure k5
  replace hb3 := hb3.pure k5
  replace hb4 := hb4.pure k5
  replace hD := hD.lt
  refine WL.move rfl rfl (WL.extract rfl rfl rfl (WL.extract rfl rfl rfl (WL.assign rfl rfl (WL.assign rfl rfl (WL.nil (WX.then_normal (WC.seq (?_))))))))
  refine WC.seq (WC.region (WL.move rfl rfl (?_)))
  refine WL.neqF rfl rfl rfl (by rfl) ?_
  refine WL.move rfl rfl (WL.want rfl rfl rfl (WL.loadB Tryz.isAgg9 hb4 rfl rfl rfl (WL.want rfl rfl rfl (WL.lens Tryz.underlying9 rfl rfl (WL.want rfl rfl rfl (?_))))))
  refine WL.neqF rfl rfl rfl (by omega) ?_
  refine WL.pickF rfl rfl rfl (WL.nil (WX.then_normal (WC.cond_false rfl (WC.skip (WX.then_normal (WC.seq (WC.region (?_))))))))
  refine WL.move rfl rfl (WL.move rfl rfl (?_))
  have zw5 := hw.size
  obtain ⟨G, hG⟩ : ∃ G, G = bgon s addr size := ⟨_, rfl⟩
  refine WL.call eg_40 rfl rfl (gone_calls hB h hD.rsl (bdrv_in h5) (Nat.le_trans (bdrv_len hdn.2) (by decide))) ?_
  rintro v w6 ⟨hgood, _, k6⟩
  obtain ⟨ga, gc, rfl, hGr⟩ := hgood hg
  have l3 := hb3.lt
  have l4 := hb4.lt
  have zs_k6 := k6.size
  replace hB := hB.pure k6
  replace h := h.pure k6
  replace hw := hw.pure k6
  replace hb3 := hb3.pure k6
  replace hb4 := hb4.pure k6
  replace hD := hD.pure k6
  replace hGr := hGr.lt
  refine WL.move rfl rfl (WL.extract rfl rfl rfl (WL.extract rfl rfl rfl (?_)))
  refine WL.alloc Tryz.zeroValue39 rfl ?_
  intro g1 w7 hge1 hlt1 hb1 k7
  have zs_k7 := k7.size
  replace hB := hB.pure k7
  replace h := h.pure k7
  replace hw := hw.pure k7
  replace hb3 := hb3.pure k7
  replace hb4 := hb4.pure k7
  replace hD := hD.pure k7
  replace hGr := hGr.pure k7
  refine WL.store Tryz.sizeOf39 hb1 rfl rfl rfl rfl ?_
  intro w_1 hs_1 hn_1 k_1
  have zs_k_1 := k_1.size
  replace hB := hB.chg k_1 (by intro h1; have h2 : _ = _ := h1; exfalso; omega)
  replace h := h.chg k_1 (by intro b h1 h2 h3; have h4 : _ = _ := h3; (try dsimp only at h2); exfalso; omega)
  replace hw := hw.chg k_1 (by intro x h1 h2; have h3 : _ = _ := h2; exfalso; omega)
  replace hb3 := hb3.chg k_1 (by intro h1; have h2 : _ = _ := h1; exfalso; omega)
  replace hb4 := hb4.chg k_1 (by intro h1; have h2 : _ = _ := h1; exfalso; omega)
  replace hD := hD.chg k_1 (by intro b h1 h2 h3; have h4 : _ = _ := h3; (try dsimp only at h2); exfalso; omega)
  replace hGr := hGr.chg k_1 (by intro b h1 h2 h3; have h4 : _ = _ := h3; (try dsimp only at h2); exfalso; omega)
  replace hb1 := hn_1
  refine WL.assign rfl rfl (WL.nil (WX.then_normal (WC.seq (WC.seq (WC.region (WL.move rfl rfl (?_)))))))
  refine WL.neqF rfl rfl rfl (by rfl) ?_
  refine WL.nil (WX.then_normal (WC.cond_false rfl (WC.skip (WX.then_normal (WC.seq (WC.region (WL.move rfl rfl (?_))))))))
  refine WL.move rfl rfl (WL.loadB Tryz.isAgg3 hb3 rfl rfl rfl (?_))
  have zw7 := hw.size
  refine WL.call eg_45 rfl rfl (stripes_calls hB h hu h5 hf addr size hs ha) ?_
  rintro v w8 ⟨⟨la2, lc, l, rfl, hOr, hI, habs⟩, k8⟩
  have z8 := k8.size
  have zs_k8 := k8.size
  replace hB := hB.pure k8
  replace h := h.pure k8
  replace hw := hw.pure k8
  replace hb3 := hb3.pure k8
  replace hb4 := hb4.pure k8
  replace hD := hD.pure k8
  replace hGr := hGr.pure k8
  replace hb1 := hb1.pure k8
  have hO := hOr.rsk.low
  clear hOr
  replace hI := hI.low
  refine WL.move rfl rfl (WL.extract rfl rfl rfl (WL.extract rfl rfl rfl (?_)))
  refine WL.alloc Tryz.zeroValue91 rfl ?_
  intro g2 w9 hge2 hlt2 hb2 k9
  have zs_k9 := k9.size
  replace hB := hB.pure k9
  replace h := h.pure k9
  replace hw := hw.pure k9
  replace hb3 := hb3.pure k9
  replace hb4 := hb4.pure k9
  replace hD := hD.pure k9
  replace hGr := hGr.pure k9
  replace hb1 := hb1.pure k9
  replace hO := hO.pure k9
  replace hI := hI.pure k9
  refine WL.store Tryz.sizeOf91 hb2 rfl rfl rfl rfl ?_
  intro w_2 hs_2 hn_2 k_2
  have zs_k_2 := k_2.size
  replace hB := hB.chg k_2 (by intro h1; have h2 : _ = _ := h1; exfalso; omega)
  replace h := h.chg k_2 (by intro b h1 h2 h3; have h4 : _ = _ := h3; (try dsimp only at h2); exfalso; omega)
  replace hw := hw.chg k_2 (by intro x h1 h2; have h3 : _ = _ := h2; exfalso; omega)
  replace hb3 := hb3.chg k_2 (by intro h1; have h2 : _ = _ := h1; exfalso; omega)
  replace hb4 := hb4.chg k_2 (by intro h1; have h2 : _ = _ := h1; exfalso; omega)
  replace hD := hD.chg k_2 (by intro b h1 h2 h3; have h4 : _ = _ := h3; (try dsimp only at h2); exfalso; omega)
  replace hGr := hGr.chg k_2 (by intro b h1 h2 h3; have h4 : _ = _ := h3; (try dsimp only at h2); exfalso; omega)
  replace hb1 := hb1.chg k_2 (by intro h1; have h2 : _ = _ := h1; exfalso; omega)
  replace hO := hO.chg k_2 (by intros; exfalso; (try dsimp only at *); omega)
  replace hI := hI.chg k_2 (by intro b h1 h2 h3; have h4 : _ = _ := h3; (try dsimp only at h2); exfalso; omega)
  replace hb2 := hn_2
  refine WL.assign rfl rfl (WL.nil (WX.then_normal (WC.seq (WC.seq (WC.region (WL.move rfl rfl (?_)))))))
  refine WL.neqF rfl rfl rfl (by rfl) ?_
  refine WL.nil (WX.then_normal (WC.cond_false rfl (WC.skip (WX.then_normal (WC.seq (WC.region (WL.move rfl rfl (?_))))))))
  refine WL.makeFun rfl rfl ?_
  have hb1' : Blk _ g1 39 [.slice ga (bgon s addr size).length gc] := hb1
  have hb2' : Blk _ g2 91 [.slice la2 l.length lc] := hb2
  have hatD := hD.at_
  have l10 := hb1'.lt
  have l20 := hb2'.lt
  refine WL.call eg_46 rfl rfl (rst_calls hb1' hGr.rsl (by omega) hD (fun b h1 h2 => by have := h1.2; have := h2.1; omega) (fun b h1 h2 => by have := h1.2; omega)) ?_
  rintro v w10 ⟨rfl, hr, k10⟩
  have z10 := k10.size
  have hM : ∀ x, (x < w4.heap.size ∨ w5.heap.size ≤ x) → Eqb da x → False := fun x h1 h2 => by have := hatD.eqb h2; omega
  replace hb1' := hb1'.chg k10 (fun h => hM _ (.inr (by omega)) h)
  replace hb2' := hb2'.chg k10 (fun h => hM _ (.inr (by omega)) h)
  replace hb3 := hb3.chg k10 (fun h => hM _ (.inl (by omega)) h)
  replace hb4 := hb4.chg k10 (fun h => hM _ (.inl (by omega)) h)
  replace hGr := hGr.chg k10 (fun x _ h1 h2 => hM x (.inr h1.1) h2)
  replace hO := hO.chg k10 (fun x _ h1 _ h2 => hM x (.inr (by have := h1.1; omega)) h2)
  replace hI := hI.chg k10 (fun x _ h1 h2 => hM x (.inr (by have := h1.1; omega)) h2)
  replace hw := hw.chg k10 (fun x h1 h2 => hM x (.inl (by omega)) h2)
  refine WL.assign rfl rfl (WL.nil (WX.then_normal (WC.seq (WC.region (?_)))))
  obtain ⟨N, hN⟩ : ∃ N, N = w10.heap.size := ⟨_, rfl⟩
  refine WL.alloc Tryz.zeroValue26 rfl ?_
  intro g5 w11 hge5 hlt5 hb5 k11
  have zs_k11 := k11.size
  replace hw := hw.pure k11
  replace hb3 := hb3.pure k11
  replace hb4 := hb4.pure k11
  replace hGr := hGr.pure k11
  replace hO := hO.pure k11
  replace hI := hI.pure k11
  replace hb1' := hb1'.pure k11
  replace hb2' := hb2'.pure k11
  replace hr := hr.pure k11
  refine WL.nil (WX.then_normal (WC.seq (WC.region (?_))))
  refine WL.alloc Tryz.zeroValue39 rfl ?_
  intro g6 w12 hge6 hlt6 hb6 k12
  have zs_k12 := k12.size
  replace hw := hw.pure k12
  replace hb3 := hb3.pure k12
  replace hb4 := hb4.pure k12
  replace hGr := hGr.pure k12
  replace hO := hO.pure k12
  replace hI := hI.pure k12
  replace hb1' := hb1'.pure k12
  replace hb2' := hb2'.pure k12
  replace hr := hr.pure k12
  replace hb5 := hb5.pure k12
  refine WL.nil (WX.then_normal (WC.seq (WC.region (?_))))
  refine WL.makeFun6 rfl rfl rfl rfl rfl rfl rfl ?_
  refine WL.assign rfl rfl (WL.nil (WX.then_normal (WC.seq (WC.seq (WC.region (WL.loadB Tryz.isAgg39 hb1' rfl rfl rfl (WL.len Tryz.underlying39 rfl rfl (?_))))))))
  refine WL.sub64 rfl rfl (by constructor <;> omega) rfl ?_
  refine WL.add64 rfl rfl (by constructor <;> omega) rfl ?_
  rw [show (3 : Int) - ((bgon s addr size).length : Int) + 1 = ((4 - (bgon s addr size).length : Nat) : Int) from by omega]
  refine WL.move rfl rfl (WL.nil (WX.then_normal (WC.block (?_))))
  obtain ⟨rest, hrest⟩ : ∃ rest, rest = brst s addr size := ⟨_, rfl⟩
  have erest : rstA (bgon s addr size) (bdrv s addr size) = rest := by rw [hrest]; rfl
  have hrl : rest.length ≤ 16 := by rw [hrest]; exact Nat.le_trans (List.length_filter_le _ _) (bdrv_len hdn.2)
  have ep : ∀ t, fitB G l size sum t = fitA s f addr size sum (srt (bgon s addr size ++ t)) := fun t => by rw [fitB, fitA, bytA, habs, hG]
  have erd : rdA s f addr size sum = (setsA rest (4 - G.length)).find? (fitB G l size sum) := by
    rw [rdA, ← hrest, hG]
    congr 1
    funext t
    have h9 := ep t
    rw [← hG] at h9 ⊢
    exact h9.symm
  have hk := kR_str h5 habs
  have hsu := secsA_up (size := size)
  have hs8 := secsA_le hs.2
  have hll : l.length ≤ 8 := by
    have h1 : l.length = (l.map Stp.abs).length := by simp
    rw [h1, habs, strA, List.length_map]
    exact Nat.le_trans (rowsA_len (by omega) _ _) hs8
  have hokl : ∀ out : List Int, G.length + out.length ≤ 3 → ∀ st ∈ l, OkCol st.abs.1 st.abs.2 (srt (G ++ out)) := fun out ho => by
    rw [hG] at ho ⊢
    exact str_ok hok h5 habs ho
  have hby : ∀ t, bytB G l size t = bytA s f addr size (srt (bgon s addr size ++ t)) := fun t => by rw [bytB, bytA, habs, hG]
  have zw12 := hw.size
  have hE : FE N w12 g1 g2 g3 g4 g5 g6 ga gc G la2 lc l size sum := ⟨by rw [hG]; exact hb1', hb2', hb3, hb4, ⟨_, _, _, hb5⟩, ⟨_, _, _, hb6⟩, by rw [hG]; exact hGr.rsl.mono (fun x hx => by have := hx.2; show x < N; omega), RSK.mono hO (fun x _ hx => by have := hx.2; show x < N; omega), hI.mono (fun x _ hx => by have := hx.2; show x < N; omega), ⟨by omega, by omega, by omega, by omega⟩, by omega, by omega⟩
  have hr2 : RSl (· < N) w12 ei da dc rest := by rw [← erest]; exact hr.rsl.mono (fun x hx => by have := hx.2; show x < N; omega)
  rw [erest]
  rw [← hG] at hg ⊢
  have g5w : w.heap.size ≤ g5 := by omega
  have g6w : w.heap.size ≤ g6 := by omega
  refine WC.loop (σ := Nat) (fun n => [(15, .slice da rest.length dc), (16, ptr g5), (17, ptr g6), (18, fnFit g1 g2 g3 g4 g5 g6), (60, vi ((4 - G.length : Nat) : Int)), (61, vi (n : Int))]) (fun n w' => n ≤ 4 - G.length ∧ FE N w' g1 g2 g3 g4 g5 g6 ga gc G la2 lc l size sum ∧ RSl (· < N) w' ei da dc rest ∧ (setsA rest n).find? (fitB G l size sum) = none ∧ Chg Nob w w') (fun n => 4 - G.length - n) 0 ⟨rfl, rfl, rfl, rfl, rfl, rfl, trivial⟩ ⟨Nat.zero_le _, hE, hr2, rfl, hw⟩ ?_
  clear hE hr2 hw hb1' hb2' hb3 hb4 hb5 hb6 hGr hO hI hr
  rintro n w13 ⟨hn, hE, hr2, hno, hw⟩
  have hne := hE.ne
  refine WC.seq (WC.region (?_))
  refine WL.lss? rfl rfl rfl (fun h62 => ?_) (fun h62 => ?_)
  ·
    refine WL.nil (WX.then_normal (WC.seq (WC.cond_true rfl (WC.skip (WX.then_normal (WC.seq (WC.block (?_))))))))
    refine WC.seq (WC.region (WL.move rfl rfl (WL.assign rfl rfl (WL.nil (WX.then_normal (WC.seq (WC.region (?_))))))))
    refine WL.move rfl rfl (WL.move rfl rfl (WL.move rfl rfl (?_)))
    have hn3 : n < 4 - G.length := by omega
    have zb := hw.size
    have hcall := try_calls (by omega) hll ⟨hs.1, by rw [hk]; omega⟩ (by rw [hk]; omega) hs.2 n (set := []) (sa := none) (sc := 0) hE hr2 (RSl.nil (fun x => x ≠ g5 ∧ x ≠ g6) w13 ei none 0) (by omega) (by show 0 + n ≤ 90; omega) (fun out ho => hokl out (by have h9 : out.length = 0 + n := ho; omega))
    rw [List.length_nil] at hcall
    refine WL.call eg_53 rfl rfl (hcall) ?_
    rintro v w14 ⟨rfl, hE14, hgot, k14⟩
    obtain ⟨bo, hbo⟩ : ∃ bo, bo = ((combos rest n []).find? (fitB G l size sum)).isSome := ⟨_, rfl⟩
    rw [← hbo]
    have hgf : GotF _ _ g5 g6 G l size ((combos rest n []).find? (fitB G l size sum)) := hgot
    clear hgot
    replace hr2 := hr2.chg k14 (fun b _ h1 h2 => by have h3 : b < N := h1; rcases h2 with h4 | h4 <;> omega)
    replace hw := hw.chg k14 (fun b h1 h2 => by rcases h2 with h4 | h4 <;> omega)
    refine WL.nil (WX.then_normal (?_))
    first | refine WC.cond_dec rfl (fun hc67 => ?_) (fun hc67 => ?_) | refine WC.cond_split rfl (fun hc67 => ?_) (fun hc67 => ?_)
    ·
      refine WC.seq (?_)
      have hh : bo = true := hc67
      obtain ⟨out, hout⟩ : ∃ out, (combos rest n []).find? (fitB G l size sum) = some out := Option.isSome_iff_exists.1 (by rw [← hbo, hh])
      obtain ⟨hln, fa, fc, ba, bc, h5', hB', h6', hb'⟩ := hgf out hout
      refine WC.draw (Nob) [0, 1, 2, 3, 4] [] mixed rfl rfl (fun wd_3 kd_3 zd_3 => ?_)
      have zs_kd_3 := kd_3.size
      replace hr2 := hr2.pure kd_3
      replace hw := hw.pure kd_3
      replace hE14 := hE14.pure kd_3
      replace h5' := h5'.pure kd_3
      replace hB' := hB'.pure kd_3
      replace h6' := h6'.pure kd_3
      replace hb' := hb'.pure kd_3
      apply DQ.step (E' := [(16, _)])
      case ho => rfl
      case hs => exact ⟨rfl, trivial⟩
      case hk => rfl
      case h1 =>
        intro wq_4 kq_4
        have zs_kq_4 := kq_4.size
        replace hr2 := hr2.pure kq_4
        replace hw := hw.pure kq_4
        replace hE14 := hE14.pure kq_4
        replace h5' := h5'.pure kq_4
        replace hB' := hB'.pure kq_4
        replace h6' := h6'.pure kq_4
        replace hb' := hb'.pure kq_4
        refine WL.loadB Tryz.isAgg26 h5' rfl rfl rfl (?_)
        refine WL.nil ?_
        exact WX.one ⟨rfl, by exact Chg.refl _ _⟩
      apply DQ.step (E' := [(17, _)])
      case ho => rfl
      case hs => exact ⟨rfl, trivial⟩
      case hk => rfl
      case h1 =>
        intro wq_5 kq_5
        have zs_kq_5 := kq_5.size
        replace hr2 := hr2.pure kq_5
        replace hw := hw.pure kq_5
        replace hE14 := hE14.pure kq_5
        replace h5' := h5'.pure kq_5
        replace hB' := hB'.pure kq_5
        replace h6' := h6'.pure kq_5
        replace hb' := hb'.pure kq_5
        refine WL.loadB Tryz.isAgg39 h6' rfl rfl rfl (?_)
        refine WL.nil ?_
        exact WX.one ⟨rfl, by exact Chg.refl _ _⟩
      apply DQ.step (E' := [(68, _)])
      case ho => rfl
      case hs => exact ⟨rfl, trivial⟩
      case hk => rfl
      case h1 =>
        intro wq_6 kq_6
        refine WL.assign rfl rfl (?_)
        refine WL.nil ?_
        exact WX.one ⟨rfl, by exact Chg.refl _ _⟩
      apply DQ.step (E' := [(69, _)])
      case ho => rfl
      case hs => exact ⟨rfl, trivial⟩
      case hk => rfl
      case h1 =>
        intro wq_7 kq_7
        refine WL.assign rfl rfl (?_)
        refine WL.nil ?_
        exact WX.one ⟨rfl, by exact Chg.refl _ _⟩
      apply DQ.step (E' := [])
      case ho => rfl
      case hs => exact trivial
      case hk => rfl
      case h1 =>
        intro wq_8 kq_8
        refine WL.assign rfl rfl (?_)
        refine WL.nil ?_
        exact WX.one ⟨rfl, by exact Chg.refl _ _⟩
      refine DQ.done (fun _ => ?_)
      refine DL.done (fun we_9 ke_9 => ?_)
      have zs_ke_9 := ke_9.size
      replace hr2 := hr2.pure ke_9
      replace hw := hw.pure ke_9
      replace hE14 := hE14.pure ke_9
      replace h5' := h5'.pure ke_9
      replace hB' := hB'.pure ke_9
      replace h6' := h6'.pure ke_9
      replace hb' := hb'.pure ke_9
      refine WX.then_normal (WC.ret (WX.block_ret (WX.then_ret (WX.then_ret (WX.block_ret (WX.then_ret (?_)))))))
      refine WX.ret3 (.inl rfl) Tryz.results19 rfl rfl rfl ?_
      have hft : (setsA rest (4 - G.length)).find? (fitB G l size sum) = some out := setsA_up (m := n + 1) (by rw [setsA_succ, find_append, hno, hout]) (by omega)
      rw [erd, hft]
      refine ⟨_, rfl, (fun h => by cases h), (fun t ht => ?_), hw⟩
      injection ht with ht
      subst ht
      have hb9 := hby out
      rw [← hG] at hb9
      rw [← hb9]
      exact ⟨fa, fc, ba, bc, rfl, hB'.mono (fun x hx => Nat.le_trans zb hx), hb'.mono (fun x hx => Nat.le_trans zb hx), hln⟩
    ·
      refine WC.skip (WX.block_normal (WX.then_normal (WC.region (WL.add64 rfl rfl (by omega) rfl (WL.move rfl rfl (WL.nil (?_)))))))
      have hnone : (combos rest n []).find? (fitB G l size sum) = none := by
        rw [hc67] at hbo
        exact Option.not_isSome_iff_eq_none.1 (by rw [← hbo]; decide)
      exact WX.loop_next (n + 1) ⟨rfl, rfl, rfl, rfl, rfl, rfl, trivial⟩ ⟨by omega, hE14, hr2, by rw [setsA_succ, find_append, hno, hnone], hw⟩ (by omega)
  ·
    refine WL.nil (WX.then_normal (WC.seq (WC.cond_false rfl (WC.exit (WX.then_exit (WX.then_exit (WX.block_here (?_))))))))
    refine WX.then_normal (WC.seq (WC.region (WL.assign rfl rfl (WL.assign rfl rfl (WL.assign rfl rfl (WL.nil (WX.then_normal (?_))))))))
    refine WC.ret (?_)
    refine WX.ret3 (.inl rfl) Tryz.results19 rfl rfl rfl ?_
    rcases Nat.lt_or_ge n (4 - G.length) with hx | hx
    ·
      exfalso
      omega
    ·
      have hnl : n = 4 - G.length := by omega
      rw [hnl] at hno
      rw [erd, hno]
      exact ⟨_, rfl, fun _ => rfl, (fun t ht => by cases ht), hw⟩
end Go.Proofs.YtggecdldnpildaaGreat
namespace Go.Proofs.YtggecdldnpildaaGreat
open Go.RowKit Go.HL
set_option maxRecDepth 100000

/-! the same numbers; a text's sum; what is known -/
theorem same6_calls {S1 S2 : Nat → Prop} {w : World} {a1 a2 : Option Addr} {c1 c2 : Nat} {xs ys : List Int} (h1 : RSl S1 w ei a1 c1 xs) (h2 : RSl S2 w ei a2 c2 ys) (hl : xs.length ≤ 9223372036854775807) :
    Calls Tryz.prog 54 [.slice a1 xs.length c1, .slice a2 ys.length c2].toArray w (Ret fun v w' => v = .bool (decide (xs = ys)) ∧ Chg Nob w w') := by
  have hw := Chg.refl Nob w
  refine Calls.of_WC Tryz.func54 rfl Tryz.ntmps54 (by simp) ?_
  refine WC.seq (WC.region (WL.assign rfl rfl (WL.nil (WX.then_normal (WC.seq (WC.seq (WC.region (?_))))))))
  refine WL.move rfl rfl (WL.len Tryz.underlying39 rfl rfl (WL.move rfl rfl (WL.len Tryz.underlying39 rfl rfl (?_))))
  refine WL.neq? rfl rfl rfl (fun h10 => ?_) (fun h10 => ?_)
  ·
    refine WL.nil (WX.then_normal (WC.cond_true rfl (WC.seq (WC.region (WL.assign rfl rfl (WL.nil (WX.then_normal (?_))))))))
    refine WC.ret (WX.then_ret (?_))
    refine WX.ret1 (.inl rfl) Tryz.results54 rfl ?_
    refine ⟨_, rfl, ?_, hw⟩
    rw [decide_eq_false (fun e => by rw [e] at h10; omega)]
  ·
    refine WL.nil (WX.then_normal (WC.cond_false rfl (WC.skip (WX.then_normal (WC.seq (WC.seq (WC.region (?_))))))))
    refine WL.assign rfl rfl (WL.nil (WX.then_normal (WC.block (?_))))
    refine WC.loop (σ := Nat) (fun i => [(0, .slice a1 xs.length c1), (1, .slice a2 ys.length c2), (5, vi (i : Int))]) (fun i w' => i ≤ xs.length ∧ RSl S1 w' ei a1 c1 xs ∧ RSl S2 w' ei a2 c2 ys ∧ Chg Nob w w' ∧ ∀ j, j < i → xs[j]? = ys[j]?) (fun i => xs.length - i) 0 ⟨rfl, rfl, rfl, trivial⟩ ⟨Nat.zero_le _, h1, h2, hw, fun j hj => by omega⟩ ?_
    clear h1 h2 hw
    rintro i w1 ⟨hi, h1, h2, hw, hno⟩
    refine WC.seq (WC.seq (WC.region (WL.move rfl rfl (WL.move rfl rfl (WL.len Tryz.underlying39 rfl rfl (?_))))))
    refine WL.lss? rfl rfl rfl (fun h14 => ?_) (fun h14 => ?_)
    ·
      refine WL.nil (WX.then_normal (WC.cond_true rfl (WC.skip (WX.then_normal (WC.seq (WC.block (WC.seq (?_))))))))
      obtain ⟨x, hx⟩ : ∃ x, xs[i]? = some x := ⟨_, List.getElem?_eq_getElem (by omega)⟩
      obtain ⟨y, hy⟩ : ∃ y, ys[i]? = some y := ⟨_, List.getElem?_eq_getElem (by omega)⟩
      obtain ⟨b1, o1, rfl⟩ := h1.place hx
      obtain ⟨b2, o2, rfl⟩ := h2.place hy
      refine WC.draw (Nob) [0, 1, 2, 3, 4, 5, 6, 7, 8] [] mixed rfl rfl (fun wd_1 kd_1 zd_1 => ?_)
      have zs_kd_1 := kd_1.size
      replace h1 := h1.pure kd_1
      replace h2 := h2.pure kd_1
      replace hw := hw.pure kd_1
      apply DQ.step (E' := [(0, _)])
      case ho => rfl
      case hs => exact ⟨rfl, trivial⟩
      case hk => rfl
      case h1 =>
        intro wq_2 kq_2
        refine WL.move rfl rfl (?_)
        refine WL.nil ?_
        exact WX.one ⟨rfl, by exact Chg.refl _ _⟩
      apply DQ.step (E' := [(5, _)])
      case ho => rfl
      case hs => exact ⟨rfl, trivial⟩
      case hk => rfl
      case h1 =>
        intro wq_3 kq_3
        refine WL.move rfl rfl (?_)
        refine WL.nil ?_
        exact WX.one ⟨rfl, by exact Chg.refl _ _⟩
      apply DQ.step (E' := [(17, _), (18, _)])
      case ho => rfl
      case hs => exact ⟨rfl, rfl, trivial⟩
      case hk => rfl
      case h1 =>
        intro wq_4 kq_4
        have zs_kq_4 := kq_4.size
        replace h1 := h1.pure kq_4
        replace h2 := h2.pure kq_4
        replace hw := hw.pure kq_4
        refine WL.indexC h1 Tryz.underlying39 Tryz.sizeOf3 rfl rfl ⟨hx, rfl⟩ rfl ?_
        refine WL.nil ?_
        exact WX.one ⟨rfl, by exact Chg.refl _ _⟩
      apply DQ.step (E' := [(19, _)])
      case ho => rfl
      case hs => exact ⟨rfl, trivial⟩
      case hk => rfl
      case h1 =>
        intro wq_5 kq_5
        have zs_kq_5 := kq_5.size
        replace h1 := h1.pure kq_5
        replace h2 := h2.pure kq_5
        replace hw := hw.pure kq_5
        refine WL.load Tryz.isAgg3 rfl ((h1.cellsAt hx) 0 _ rfl) rfl (?_)
        refine WL.nil ?_
        exact WX.one ⟨rfl, by exact Chg.refl _ _⟩
      apply DQ.step (E' := [(1, _)])
      case ho => rfl
      case hs => exact ⟨rfl, trivial⟩
      case hk => rfl
      case h1 =>
        intro wq_6 kq_6
        refine WL.move rfl rfl (?_)
        refine WL.nil ?_
        exact WX.one ⟨rfl, by exact Chg.refl _ _⟩
      apply DQ.step (E' := [(5, _)])
      case ho => rfl
      case hs => exact ⟨rfl, trivial⟩
      case hk => rfl
      case h1 =>
        intro wq_7 kq_7
        refine WL.move rfl rfl (?_)
        refine WL.nil ?_
        exact WX.one ⟨rfl, by exact Chg.refl _ _⟩
      apply DQ.step (E' := [(21, _), (22, _)])
      case ho => rfl
      case hs => exact ⟨rfl, rfl, trivial⟩
      case hk => rfl
      case h1 =>
        intro wq_8 kq_8
        have zs_kq_8 := kq_8.size
        replace h1 := h1.pure kq_8
        replace h2 := h2.pure kq_8
        replace hw := hw.pure kq_8
        refine WL.indexC h2 Tryz.underlying39 Tryz.sizeOf3 rfl rfl ⟨hy, rfl⟩ rfl ?_
        refine WL.nil ?_
        exact WX.one ⟨rfl, by exact Chg.refl _ _⟩
      apply DQ.step (E' := [(23, _)])
      case ho => rfl
      case hs => exact ⟨rfl, trivial⟩
      case hk => rfl
      case h1 =>
        intro wq_9 kq_9
        have zs_kq_9 := kq_9.size
        replace h1 := h1.pure kq_9
        replace h2 := h2.pure kq_9
        replace hw := hw.pure kq_9
        refine WL.load Tryz.isAgg3 rfl ((h2.cellsAt hy) 0 _ rfl) rfl (?_)
        refine WL.nil ?_
        exact WX.one ⟨rfl, by exact Chg.refl _ _⟩
      apply DQ.split (E' := [(20, _), (24, _)])
      case ho => rfl
      case hs => exact ⟨rfl, rfl, trivial⟩
      case hk => rfl
      case h1 =>
        intro wq_10 kq_10
        refine WL.neq rfl rfl rfl ?_
        refine WL.nil ?_
        exact WX.one ⟨rfl, by exact Chg.refl _ _⟩
      case ht =>
        intro h25
        replace h25 := of_decide_eq_true h25
        refine DQ.done (fun _ => ?_)
        refine DL.done (fun we_11 ke_11 => ?_)
        have zs_ke_11 := ke_11.size
        replace h1 := h1.pure ke_11
        replace h2 := h2.pure ke_11
        replace hw := hw.pure ke_11
        refine WX.then_normal (WC.cond_true rfl (WC.seq (WC.region (WL.assign rfl rfl (WL.nil (WX.then_normal (WC.ret (?_))))))))
        refine WX.block_ret (WX.then_ret (WX.then_ret (WX.block_ret (WX.then_ret (?_)))))
        refine WX.ret1 (.inl rfl) Tryz.results54 rfl ?_
        refine ⟨_, rfl, ?_, hw⟩
        rw [decide_eq_false (fun e => by rw [e, hy] at hx; injection hx with hx; omega)]
      case hf =>
        intro h25
        replace h25 := of_decide_eq_false h25
        refine DQ.done (fun _ => ?_)
        refine DL.done (fun we_11 ke_11 => ?_)
        have zs_ke_11 := ke_11.size
        replace h1 := h1.pure ke_11
        replace h2 := h2.pure ke_11
        replace hw := hw.pure ke_11
        refine WX.then_normal (WC.cond_false rfl (WC.skip (WX.block_normal (WX.then_normal (WC.region (WL.move rfl rfl (WL.add64 rfl rfl (by omega) rfl (?_))))))))
        refine WL.assign rfl rfl (WL.nil (?_))
        refine WX.loop_next (i + 1) ⟨rfl, rfl, rfl, trivial⟩ ⟨by omega, h1, h2, hw, fun j hj => ?_⟩ (by omega)
        rcases Nat.lt_or_ge j i with h3 | h3
        ·
          exact hno j h3
        ·
          have h4 : j = i := by omega
          subst h4
          have h5 : x = y := by omega
          rw [hx, hy, h5]
    ·
      refine WL.nil (WX.then_normal (WC.cond_false rfl (WC.exit (WX.then_exit (WX.then_exit (WX.block_here (WX.then_normal (?_))))))))
      refine WC.seq (WC.region (WL.assign rfl rfl (WL.nil (WX.then_normal (WC.ret (?_))))))
      refine WX.ret1 (.inl rfl) Tryz.results54 rfl ?_
      refine ⟨_, rfl, ?_, hw⟩
      rw [decide_eq_true (List.ext_getElem? (fun j => by
        rcases Nat.lt_or_ge j xs.length with h3 | h3
        ·
          exact hno j (by omega)
        ·
          rw [List.getElem?_eq_none h3, List.getElem?_eq_none (by omega)]))]
theorem sum6_calls (w : World) (t : ByteArray) (ht : t.size ≤ 4000) : Calls Tryz.prog 24 [.string t].toArray w (Ret fun v w' => v = .string ⟨(sumB t.data.toList).toArray⟩ ∧ Chg Nob w w') := by
  have hw := Chg.refl Nob w
  have hts : t.data.toList.length = t.size := by rw [Array.length_toList]; rfl
  refine Calls.of_WC Tryz.func24 rfl Tryz.ntmps24 (by simp) ?_
  refine WC.seq (WC.region (WL.assign rfl rfl (WL.nil (WX.then_normal (WC.seq (WC.region (WL.move rfl rfl (?_))))))))
  refine WL.toBytes Tryz.underlying9 Tryz.underlying26 Tryz.underlying5 rfl (by omega) rfl ?_
  intro a_hb c_hb w_hb hb k_hb z_hb
  have zs_k_hb := k_hb.size
  replace hw := hw.pure k_hb
  refine WL.call eg_12 rfl rfl (sum_calls hb.rsl (by omega)) ?_
  rintro v w5 ⟨rfl, k5⟩
  have zs_k5 := k5.size
  replace hw := hw.pure k5
  replace hb := hb.pure k5
  refine WL.assign rfl rfl (WL.nil (WX.then_normal (WC.ret (?_))))
  refine WX.ret1 (.inl rfl) Tryz.results24 rfl ?_
  exact ⟨_, rfl, rfl, hw⟩
theorem bgon_none {s : RA} (h : ∀ d, goneS s d = false) (addr size : Nat) : bgon s addr size = [] := List.filter_eq_nil_iff.2 (fun d _ => by simp [h d])
theorem sum32 (b : List UInt8) : (⟨(sumB b).toArray⟩ : ByteArray).size = 32 := sumB_len b
set_option maxHeartbeats 4000000 in
theorem known6_calls (w : World) : Calls Tryz.prog 20 [].toArray w (Ret fun v w' => v = .bool true ∧ Chg Nob w w') := by
  have hw := Chg.refl Nob w
  obtain ⟨s0, es0⟩ : ∃ s0, s0 = newS 5 3 := ⟨_, rfl⟩
  have u0 : Up s0 := es0 ▸ newS_up 5 3
  have sd : s0.dn = 5 := by rw [es0]; rfl
  have sn : s0.sn = 3 := by rw [es0]; rfl
  have sw : s0.waits.length = 0 := by rw [es0]; rfl
  have sg : ∀ d, goneS s0 d = false := fun d => by rw [es0]; exact newS_gone 5 3 d
  obtain ⟨B, eB⟩ : ∃ B : List UInt8, B = [97, 98, 99] := ⟨_, rfl⟩
  have hBl : B.length = 3 := by rw [eB]; rfl
  refine Calls.of_WC Tryz.func20 rfl Tryz.ntmps20 (by simp) ?_
  refine WC.seq (WC.region (WL.assign rfl rfl (WL.nil (WX.then_normal (WC.seq (WC.region (?_)))))))
  refine WL.call eg_13 rfl rfl (New_calls w (dn := 5) (sn := 3) (by decide) (by decide)) ?_
  rintro v w1 ⟨⟨R, rfl, hR⟩, k1⟩
  rw [← es0] at hR
  replace hR := hR.old
  have zs_k1 := k1.size
  replace hw := hw.pure k1
  refine WL.move rfl rfl (WL.extract rfl rfl rfl (WL.extract rfl rfl rfl (WL.assign rfl rfl (WL.assign rfl rfl (WL.nil (WX.then_normal (WC.seq (?_))))))))
  refine WC.region (WL.move rfl rfl (?_))
  refine WL.call eg_14 rfl rfl (anew_calls hR 1 (by omega) (by omega)) ?_
  rintro v w2 ⟨⟨a, rfl, hBa, hage⟩, k2⟩
  have la := hBa.lt
  have zw1 := hw.size
  have zs_k2 := k2.size
  replace hw := hw.pure k2
  replace hR := hR.pure k2
  refine WL.move rfl rfl (WL.extract rfl rfl rfl (WL.extract rfl rfl rfl (WL.assign rfl rfl (WL.assign rfl rfl (WL.nil (WX.then_normal (WC.seq (?_))))))))
  refine WC.seq (WC.region (WL.move rfl rfl (?_)))
  refine WL.neqF rfl rfl rfl (by rfl) ?_
  refine WL.move rfl rfl (WL.want rfl rfl rfl (WL.move rfl rfl (WL.want rfl rfl rfl (?_))))
  refine WL.neqF rfl rfl rfl (by rfl) ?_
  refine WL.pickF rfl rfl rfl (WL.move rfl rfl (WL.want rfl rfl rfl (WL.move rfl rfl (WL.want rfl rfl rfl (?_)))))
  refine WL.ptrNil Tryz.underlying31 rfl rfl rfl ?_
  refine WL.pickF rfl rfl rfl (WL.move rfl rfl (WL.want rfl rfl rfl (WL.move rfl rfl (WL.want rfl rfl rfl (?_)))))
  refine WL.call eg_16 rfl rfl (Cells_calls hBa hR (by omega)) ?_
  rintro v w3 ⟨rfl, k3⟩
  rw [show s0.dn * (s0.sn - 1) = 10 from by rw [sd, sn]]
  have zs_k3 := k3.size
  replace hw := hw.pure k3
  replace hR := hR.pure k3
  replace hBa := hBa.pure k3
  refine WL.want rfl rfl rfl (?_)
  refine WL.neqF rfl rfl rfl (by rfl) ?_
  refine WL.pickF rfl rfl rfl (WL.move rfl rfl (WL.want rfl rfl rfl (WL.move rfl rfl (WL.want rfl rfl rfl (?_)))))
  refine WL.build (e := eb) [97, 98, 99] Tryz.underlying26 Tryz.sizeOf5 Tryz.zeroValue5 rfl rfl rfl (by simp [Value.cells] <;> rfl) (by decide) rfl ?_
  intro a_q34 w_q34 q34 l_q34 z_q34 k_q34
  have zs_k_q34 := k_q34.size
  replace hw := hw.pure k_q34
  replace hR := hR.pure k_q34
  replace hBa := hBa.pure k_q34
  refine WL.want rfl rfl rfl (?_)
  have zc := hw.size
  refine WL.mark Tryz.underlying26 Tryz.underlying5 q34 (by decide) rfl rfl ?_
  intro w4 hq k4 z4
  replace hR := hR.chg k4 (fun x _ h1 h2 => by have := h1.2; have := h2.2; omega)
  replace hBa := hBa.chg k4 (fun h => by have := h.2; omega)
  replace hw := hw.chg k4 (fun x h1 h2 => by have := h2.2; omega)
  rw [← eB] at hq ⊢
  refine WL.want rfl rfl rfl (?_)
  have c1 : costA s0.dn (secsA B.length) = 4 := by rw [sd, hBl]; decide +kernel
  have l2 := hBa.lt
  have hc := awrite_good hBa (fun h => by have := h.2; omega) hR (fun x hx => by have := hx.2; omega) u0 (by omega) (by omega) 1 hq (by omega) (by rw [c1, sd, sn]; decide) (by omega) (by rw [bgon_none sg]; decide)
  refine WL.call eg_17 rfl rfl (hc) ?_
  rintro v w5 ⟨rfl, hR5, k5⟩
  have z5 := k5.size
  replace hBa := hBa.chg k5 (fun h => by have := h.2; omega)
  replace hw := hw.chg k5 (fun x h1 h2 => by have h3 : w.heap.size ≤ x := h2.1; omega)
  have hna : ¬ (((w.heap.size ≤ a) ∧ a < w1.heap.size) ∨ w4.heap.size ≤ a) := fun h => by omega
  have hA5 : ∀ x, x < w.heap.size → (((w.heap.size ≤ x) ∧ x < w1.heap.size) ∨ w4.heap.size ≤ x) → False := fun x h1 h2 => by omega
  have hI0 := wrT_intact s0 1 1 (layA s0.dn B) (bad := []) (fun c h1 h2 hg => by rw [sg] at hg; cases hg)
  obtain ⟨s1, es1⟩ : ∃ s1, s1 = wrT s0 1 1 (layA s0.dn B) (layA s0.dn B).length := ⟨_, rfl⟩
  obtain ⟨d1, n1, -, -⟩ := wrT_dn s0 1 1 (layA s0.dn B) (layA s0.dn B).length
  have u1 := wrT_up u0 1 1 (layA s0.dn B) (layA s0.dn B).length
  have g1 : ∀ d, goneS s1 d = false := fun d => by rw [es1, wrT_gone]; exact sg d
  rw [← es1] at hI0 hR5 d1 n1 u1
  rw [sd] at d1 hI0 hBa
  rw [sn] at n1
  clear es1
  refine WL.want rfl rfl rfl (?_)
  refine WL.neqF rfl rfl rfl (by rfl) ?_
  refine WL.pickF rfl rfl rfl (WL.move rfl rfl (WL.want rfl rfl rfl (WL.move rfl rfl (WL.want rfl rfl rfl (?_)))))
  have ok1 := hR5.ok
  refine WL.call eg_18 rfl rfl (LoseU hR5 (d := 1) (by constructor <;> omega)) ?_
  rintro v w6 ⟨rfl, hR6, k6⟩
  replace hBa := hBa.chg k6 hna
  replace hw := hw.chg k6 (fun x h1 h2 => (hA5 x h1 h2).elim)
  refine WL.want rfl rfl rfl (?_)
  refine WL.neqF rfl rfl rfl (by rfl) ?_
  refine WL.pickF rfl rfl rfl (WL.move rfl rfl (WL.want rfl rfl rfl (WL.move rfl rfl (WL.want rfl rfl rfl (?_)))))
  have ok2 := hR6.ok
  refine WL.call eg_18 rfl rfl (LoseU hR6 (d := 2) ⟨by decide, by show (2 : Int) < (s1.dn : Int); omega⟩) ?_
  rintro v w7 ⟨rfl, hR7, k7⟩
  replace hBa := hBa.chg k7 hna
  replace hw := hw.chg k7 (fun x h1 h2 => (hA5 x h1 h2).elim)
  refine WL.want rfl rfl rfl (?_)
  refine WL.neqF rfl rfl rfl (by rfl) ?_
  refine WL.pickF rfl rfl rfl (WL.move rfl rfl (WL.want rfl rfl rfl (WL.move rfl rfl (WL.want rfl rfl rfl (?_)))))
  have ok3 := hR7.ok
  refine WL.call eg_18 rfl rfl (LoseU hR7 (d := 4) ⟨by decide, by show (4 : Int) < (s1.dn : Int); omega⟩) ?_
  rintro v w8 ⟨rfl, hR8, k8⟩
  replace hBa := hBa.chg k8 hna
  replace hw := hw.chg k8 (fun x h1 h2 => (hA5 x h1 h2).elim)
  have ok4 := hR8.ok
  have i1 : isS s1 1 := ⟨by decide, by omega⟩
  have i2 : isS (loseS s1 1 true) 2 := ⟨by decide, by show (2 : Int) < (s1.dn : Int); omega⟩
  have i4 : isS (loseS (loseS s1 1 true) 2 true) 4 := ⟨by decide, by show (4 : Int) < (s1.dn : Int); omega⟩
  have hI4 : Intact (loseS (loseS (loseS s1 1 true) 2 true) 4 true) 1 1 (layA 5 B) [1, 2, 4] := lose_intact ok3 (lose_intact ok2 (lose_intact ok1 (hI0.mono (fun d hd => by cases hd)) i1 (by decide)) i2 (by decide)) i4 (by decide)
  have gg : ∀ d : Int, 0 ≤ d → goneS (loseS (loseS (loseS s1 1 true) 2 true) 4 true) d = decide (d = 1 ∨ d = 2 ∨ d = 4) := fun d hd => by
    rw [loseS_gone ok3 i4 true hd, loseS_gone ok2 i2 true hd, loseS_gone ok1 i1 true hd, g1 d]
    by_cases h4 : d = 4
    ·
      simp [h4]
    ·
      by_cases h2 : d = 2
      ·
        simp [h2]
      ·
        by_cases h1 : d = 1 <;> simp [h1, h2, h4]
  have u4 : Up (loseS (loseS (loseS s1 1 true) 2 true) 4 true) := loseS_up (loseS_up (loseS_up u1 _ _) _ _) _ _
  have d4 : (loseS (loseS (loseS s1 1 true) 2 true) 4 true).dn = 5 := d1
  have n4 : (loseS (loseS (loseS s1 1 true) 2 true) 4 true).sn = 3 := n1
  obtain ⟨s4, es4⟩ : ∃ s4, s4 = loseS (loseS (loseS s1 1 true) 2 true) 4 true := ⟨_, rfl⟩
  rw [← es4] at hR8 ok4 hI4 gg u4 d4 n4
  clear es4
  have hgon : bgon s4 1 3 = [1, 2, 4] := by
    have h1 : drvA s4.dn 1 (costA s4.dn (secsA 3)) = [1, 2, 3, 4] := by
      rw [d4, show costA 5 (secsA 3) = 4 from by decide +kernel, drvA, show (List.range (min 4 5)).map (fun c => (((1 + c) % 5 : Nat) : Int)) = [1, 2, 3, 4] from by decide +kernel]
      exact srt_id (by decide)
    show gonA s4 (drvA s4.dn 1 (costA s4.dn (secsA 3))) = _
    rw [h1, gonA]
    simp [gg 1 (by decide), gg 2 (by decide), gg 3 (by decide), gg 4 (by decide)]
  have hrd := intact_gone ok4 (by omega) (f := 1) (a := 1) (b := B) (by rw [d4, hBl, hgon]; exact hI4) (by rw [hBl, hgon]; decide)
  rw [hBl, hgon] at hrd
  refine WL.want rfl rfl rfl (?_)
  refine WL.neqF rfl rfl rfl (by rfl) ?_
  refine WL.pickF rfl rfl rfl (WL.nil (WX.then_normal (WC.cond_false rfl (WC.skip (WX.then_normal (WC.seq (WC.region (?_))))))))
  refine WL.move rfl rfl (?_)
  refine WL.call eg_24 rfl rfl (sum6_calls _ (⟨B.toArray⟩ : ByteArray) (by show B.toArray.size ≤ 4000; rw [List.size_toArray, hBl]; decide)) ?_
  rintro v w9 ⟨rfl, k9⟩
  rw [show (⟨B.toArray⟩ : ByteArray).data.toList = B from rfl]
  have zs_k9 := k9.size
  replace hw := hw.pure k9
  replace hBa := hBa.pure k9
  replace hR8 := hR8.pure k9
  have c4 : costA s4.dn (secsA 3) = 4 := by rw [d4]; decide +kernel
  have hcl := aread_good (by rw [d4]; exact hBa) hR8 u4 (by omega) (by omega) 1 3 (by decide) (by rw [c4, d4, n4]; decide) ⟨(sumB B).toArray⟩ (sum32 B) (by rw [hgon]; decide)
  refine WL.call eg_19 rfl rfl (hcl) ?_
  rintro v w10 ⟨-, hsome, k10⟩
  have hs := hsome [] hrd.1
  rw [hgon, hrd.2.1, hrd.2.2] at hs
  obtain ⟨fa, fc, ba, bc, rfl, hB, hb, -⟩ := hs
  clear hsome
  have zs_k10 := k10.size
  replace hw := hw.pure k10
  replace hBa := hBa.pure k10
  replace hR8 := hR8.pure k10
  refine WL.move rfl rfl (WL.extract rfl rfl rfl (WL.extract rfl rfl rfl (WL.extract rfl rfl rfl (WL.assign rfl rfl (WL.assign rfl rfl (WL.assign rfl rfl (WL.nil (?_))))))))
  refine WX.then_normal (WC.seq (WC.region (WL.move rfl rfl (?_))))
  refine WL.eqlT rfl rfl rfl (by rfl) ?_
  refine WL.move rfl rfl (WL.want rfl rfl rfl (WL.move rfl rfl (WL.want rfl rfl rfl (?_))))
  refine WL.toStr Tryz.underlying26 Tryz.underlying5 Tryz.underlying9 hB.rsl rfl rfl ?_
  refine WL.want rfl rfl rfl (?_)
  refine WL.seqlT rfl rfl rfl (by rfl) ?_
  refine WL.pickT rfl rfl rfl (WL.move rfl rfl (WL.want rfl rfl rfl (WL.move rfl rfl (WL.want rfl rfl rfl (?_)))))
  refine WL.build (e := ei) [1, 2, 4] Tryz.underlying39 Tryz.sizeOf3 Tryz.zeroValue3 rfl rfl rfl (by simp [Value.cells] <;> rfl) (by decide) rfl ?_
  intro a_q70 w_q70 q70 l_q70 z_q70 k_q70
  have zs_k_q70 := k_q70.size
  replace hw := hw.pure k_q70
  replace hBa := hBa.pure k_q70
  replace hR8 := hR8.pure k_q70
  replace hB := hB.pure k_q70
  replace hb := hb.pure k_q70
  refine WL.want rfl rfl rfl (?_)
  refine WL.call eg_54 rfl rfl (same6_calls hb.rsl q70.rsl (by decide)) ?_
  rintro v w11 ⟨rfl, k11⟩
  rw [decide_eq_true rfl]
  have zs_k11 := k11.size
  replace hw := hw.pure k11
  replace hBa := hBa.pure k11
  replace hR8 := hR8.pure k11
  replace hB := hB.pure k11
  replace hb := hb.pure k11
  replace q70 := q70.pure k11
  refine WL.pickT rfl rfl rfl (WL.assign rfl rfl (WL.nil (WX.then_normal (WC.ret (?_)))))
  refine WX.ret1 (.inl rfl) Tryz.results20 rfl ?_
  exact ⟨_, rfl, rfl, hw⟩
end Go.Proofs.YtggecdldnpildaaGreat
namespace Go.HL
open Go.RowKit
theorem WX.ret5 {P : Program} {fn : Func} {R : Ending → World → Prop} {N : Nat} {E : Env} {w : World} {x : Exit} (hx : x = .ret ∨ x = .normal) {t u s p q : Nat} {v1 v2 v3 v4 v5 : Value} (h : fn.results = #[.tmp t, .tmp u, .tmp s, .tmp p, .tmp q]) (hv : E.lookup t = some v1) (hu : E.lookup u = some v2) (hs : E.lookup s = some v3) (hp : E.lookup p = some v4) (hq : E.lookup q = some v5) (hR : R (.returned (.tuple #[v1, v2, v3, v4, v5])) w) : WX (bodyPost P fn R) x N E w :=
  WX.retOf hx _ (fun a ha => by
    have h1 := getD_of ha hv
    have h2 := getD_of ha hu
    have h3 := getD_of ha hs
    have h4 := getD_of ha hp
    have h5 := getD_of ha hq
    simp only [Array.getD_eq_getD_getElem?] at h1 h2 h3 h4 h5
    simp [results, h, h1, h2, h3, h4, h5]) hR
end Go.HL
namespace Go.Proofs.YtggecdldnpildaaGreat
open Go.RowKit Go.HL
set_option maxRecDepth 100000

/-! a block is laid on a rack -/
structure BkV where
  dr : Int
  da : ByteArray
  ad : Int
  fo : Option Addr
  fc : Nat
  fl : List Int
  ho : Option Addr
  hc : Nat
  hl : List Int
def bkcells (x : BkV) : List Value := [vi x.dr, .string x.da, vi x.ad, .slice x.fo x.fl.length x.fc, .slice x.ho x.hl.length x.hc]
def bkval (x : BkV) : Value := .agg (bkcells x).toArray
def datL (s : ByteArray) : ByteArray := if s.extract 0 (min s.size 1024) = ⟨#[]⟩ then ⟨#[120]⟩ else s.extract 0 (min s.size 1024)
theorem datL_len (s : ByteArray) : 1 ≤ (datL s).size ∧ (datL s).size ≤ 1024 := by
  unfold datL
  split
  · exact ⟨by decide, by decide⟩
  · rename_i h
    have h1 : (s.extract 0 (min s.size 1024)).size ≤ 1024 := by rw [ByteArray.size_extract]; omega
    refine ⟨?_, h1⟩
    rcases Nat.eq_zero_or_pos (s.extract 0 (min s.size 1024)).size with h0 | h0
    · exfalso
      refine h ?_
      apply ByteArray.ext
      exact Array.eq_empty_of_size_eq_zero h0
    · exact h0
structure LayS (s : RA) (n addr : Nat) (b : List UInt8) : Prop where
  dn : s.dn = n
  sn : s.sn = 9
  n5 : 5 ≤ n ∧ n ≤ 16
  up : Up s
  gone : ∀ d, goneS s d = false
  waits : s.waits.length = 0
  len : 1 ≤ b.length ∧ b.length ≤ 1024
  fit : addr + costA n (secsA b.length) ≤ n * 7
  intact : Intact s 2 addr (layA n b) []
set_option maxHeartbeats 4000000 in
theorem lay_calls (w : World) (x : BkV) :
    Calls Tryz.prog 22 [bkval x].toArray w (Ret fun v w' => (∃ (R a addr n : Nat) (s : RA), v = .tuple #[ptr R, ptr a, vi addr, .string (datL x.da), .bool true] ∧ LayS s n addr (datL x.da).data.toList ∧ AB w' a R n 2 ∧ RK (fun y => w.heap.size ≤ y ∧ y ≠ a) w' R s ∧ w.heap.size ≤ a) ∧ Chg Nob w w') := by
  have hw := Chg.refl Nob w
  obtain ⟨k, hk⟩ : ∃ k, k = (B64 x.dr % 12).toNat := ⟨_, rfl⟩
  have hk12 : k < 12 := by rw [hk, UInt64.toNat_mod]; exact Nat.mod_lt _ (by decide)
  obtain ⟨n, hn⟩ : ∃ n, n = 5 + k := ⟨_, rfl⟩
  obtain ⟨s0, es0⟩ : ∃ s0, s0 = newS n 9 := ⟨_, rfl⟩
  have u0 : Up s0 := es0 ▸ newS_up n 9
  have sd : s0.dn = n := by rw [es0]; rfl
  have sn : s0.sn = 9 := by rw [es0]; rfl
  have sw : s0.waits.length = 0 := by rw [es0]; rfl
  have sg : ∀ d, goneS s0 d = false := fun d => by rw [es0]; exact newS_gone n 9 d
  obtain ⟨dat, hdat⟩ : ∃ dat, dat = datL x.da := ⟨_, rfl⟩
  have hdl := datL_len x.da
  rw [← hdat] at hdl ⊢
  obtain ⟨b, hb⟩ : ∃ b, b = dat.data.toList := ⟨_, rfl⟩
  have hbl : b.length = dat.size := by rw [hb, Array.length_toList]; rfl
  rw [← hb]
  have h8 := secsA_le (size := dat.size) hdl.2
  have hci := costA_is (n := n) (by omega) h8
  obtain ⟨c, hc⟩ : ∃ c, c = costA n (secsA dat.size) := ⟨_, rfl⟩
  rw [← hc] at hci
  refine Calls.of_WC Tryz.func22 rfl Tryz.ntmps22 (by simp) ?_
  refine WC.seq (WC.region (?_))
  refine WL.box rfl rfl ?_
  intro gb wb hge hlt hbb kb
  have zs_kb := kb.size
  replace hw := hw.pure kb
  have hbk : Blk _ gb 47 (bkcells x) := hbb
  refine WL.assign rfl rfl (WL.assign rfl rfl (WL.assign rfl rfl (WL.assign rfl rfl (WL.assign rfl rfl (WL.nil (WX.then_normal (WC.seq (?_))))))))
  refine WC.region (WL.fieldAddr (fld_47_0) rfl rfl (WL.loadB Tryz.isAgg3 hbk rfl rfl rfl (WL.c_i64_u64 Tryz.underlying3 Tryz.underlying23 rfl rfl (WL.num rfl rfl (n_rem64 _ _ _ 12 (by decide)) rfl (?_)))))
  refine WL.c_u64_i64s (n := k) Tryz.underlying23 Tryz.underlying3 rfl ⟨hk.symm, by omega⟩ rfl ?_
  refine WL.add64 rfl rfl (by constructor <;> omega) rfl ?_
  rw [show (5 : Int) + (k : Int) = (n : Int) from by omega]
  refine WL.assign rfl rfl (WL.nil (WX.then_normal (WC.seq (WC.region (WL.move rfl rfl (?_))))))
  have zw0 := hw.size
  refine WL.call eg_13 rfl rfl (New_calls _ (dn := n) (sn := 9) (by omega) (by decide)) ?_
  rintro v w2 ⟨⟨R, rfl, hR⟩, k2⟩
  rw [← es0] at hR
  replace hR := (hR.mono (A' := fun y => w.heap.size ≤ y) (fun y hy => by omega)).old
  have zs_k2 := k2.size
  replace hw := hw.pure k2
  replace hbk := hbk.pure k2
  refine WL.move rfl rfl (WL.extract rfl rfl rfl (WL.extract rfl rfl rfl (WL.assign rfl rfl (WL.assign rfl rfl (WL.nil (WX.then_normal (WC.seq (?_))))))))
  refine WC.region (WL.move rfl rfl (?_))
  have lR2 := hR.aR
  refine WL.call eg_14 rfl rfl (anew_calls hR 2 (by omega) (by omega)) ?_
  rintro v w3 ⟨⟨a, rfl, hBa, hage⟩, k3⟩
  rw [sd] at hBa
  have zw2 := hw.size
  have zs_k3 := k3.size
  replace hw := hw.pure k3
  replace hbk := hbk.pure k3
  replace hR := hR.pure k3
  refine WL.move rfl rfl (WL.extract rfl rfl rfl (WL.extract rfl rfl rfl (WL.assign rfl rfl (WL.assign rfl rfl (WL.nil (WX.then_normal (WC.seq (?_))))))))
  refine WC.region (WL.fieldAddr (fld_47_1) rfl rfl (WL.loadB Tryz.isAgg9 hbk rfl rfl rfl (WL.fieldAddr (fld_47_1) rfl rfl (WL.loadB Tryz.isAgg9 hbk rfl rfl rfl (WL.lens Tryz.underlying9 rfl rfl (?_))))))
  refine WL.mini rfl rfl rfl ?_
  rw [show (if (1024 : Int) < (x.da.size : Int) then (1024 : Int) else (x.da.size : Int)) = ((min x.da.size 1024 : Nat) : Int) from by split <;> omega]
  refine WL.sslice (l := 0) (h := min x.da.size 1024) (k := .i64) Tryz.underlying9 rfl (.inr ⟨rfl, rfl⟩) (.inl rfl) ⟨Nat.zero_le _, by omega⟩ rfl ?_
  refine WL.assign rfl rfl (WL.nil (WX.then_normal (WC.seq (WC.seq (WC.region (WL.move rfl rfl (?_)))))))
  refine WL.seql rfl rfl rfl ?_
  refine WL.nil (WX.then_normal (?_))
  refine WC.cutR (σ := Unit) (fun _ => [(1, ptr gb), (7, vi n), (8, ptr R), (9, vi 0), (10, ptr a), (11, vi 0), (12, .string dat)]) (fun _ w' => Blk w' gb 47 (bkcells x) ∧ RK (fun y => w.heap.size ≤ y ∧ y < w2.heap.size) w' R s0 ∧ AB w' a R n 2 ∧ Chg Nob w w') ?_ ?_
  rotate_left
  ·
    first | refine WC.cond_dec rfl (fun hc40 => ?_) (fun hc40 => ?_) | refine WC.cond_split rfl (fun hc40 => ?_) (fun hc40 => ?_)
    ·
      refine WC.region (WL.assign rfl rfl (WL.nil (?_)))
      exact WX.cut () ⟨rfl, rfl, rfl, rfl, rfl, rfl, by first | (rw [hdat, datL, if_pos hc40]; rfl) | (rw [hdat, datL, if_neg hc40]; rfl), trivial⟩ ⟨hbk, hR, hBa, hw⟩
    ·
      refine WC.skip (?_)
      exact WX.cut () ⟨rfl, rfl, rfl, rfl, rfl, rfl, by first | (rw [hdat, datL, if_pos hc40]; rfl) | (rw [hdat, datL, if_neg hc40]; rfl), trivial⟩ ⟨hbk, hR, hBa, hw⟩
  ·
    rintro ⟨⟩ w4 ⟨hbk, hR, hBa, hw⟩
    refine WX.then_normal (WC.seq (WC.region (WL.move rfl rfl (WL.move rfl rfl (WL.lens Tryz.underlying9 rfl rfl (?_))))))
    refine WL.call eg_15 rfl rfl (cost_good hBa (by omega) dat.size hdl) ?_
    rintro v w5 ⟨rfl, k5⟩
    rw [← hc]
    have zs_k5 := k5.size
    replace hbk := hbk.pure k5
    replace hR := hR.pure k5
    replace hBa := hBa.pure k5
    replace hw := hw.pure k5
    refine WL.move rfl rfl (WL.extract rfl rfl rfl (WL.extract rfl rfl rfl (WL.assign rfl rfl (WL.assign rfl rfl (WL.nil (WX.then_normal (WC.seq (?_))))))))
    refine WC.seq (WC.region (WL.move rfl rfl (?_)))
    refine WL.neqF rfl rfl rfl (by first | rfl | omega | decide) ?_
    refine WL.move rfl rfl (WL.want rfl rfl rfl (WL.move rfl rfl (WL.want rfl rfl rfl (?_))))
    refine WL.neqF rfl rfl rfl (by first | rfl | omega | decide) ?_
    refine WL.pickF rfl rfl rfl (WL.move rfl rfl (WL.want rfl rfl rfl (WL.move rfl rfl (WL.want rfl rfl rfl (?_)))))
    refine WL.neqF rfl rfl rfl (by first | rfl | omega | decide) ?_
    refine WL.pickF rfl rfl rfl (WL.move rfl rfl (WL.want rfl rfl rfl (WL.move rfl rfl (WL.want rfl rfl rfl (WL.move rfl rfl (WL.want rfl rfl rfl (?_)))))))
    refine WL.call eg_16 rfl rfl (Cells_calls (s := s0) (by rw [sd]; exact hBa) hR (by omega)) ?_
    rintro v w6 ⟨rfl, k6⟩
    rw [show s0.dn * (s0.sn - 2) = n * 7 from by rw [sd, sn]]
    have zs_k6 := k6.size
    replace hbk := hbk.pure k6
    replace hR := hR.pure k6
    replace hBa := hBa.pure k6
    replace hw := hw.pure k6
    refine WL.want rfl rfl rfl (?_)
    refine WL.gtrF rfl rfl rfl (by first | rfl | omega | decide) ?_
    refine WL.pickF rfl rfl rfl (WL.nil (WX.then_normal (WC.cond_false rfl (WC.skip (WX.then_normal (WC.seq (?_)))))))
    obtain ⟨m, hmm⟩ : ∃ m, m = n * 7 - c + 1 := ⟨_, rfl⟩
    have hB64 : (B64 (m : Int)).toNat = m := B64_nat (by omega)
    obtain ⟨addr, haddr⟩ : ∃ a, a = (B64 x.ad % B64 (m : Int)).toNat := ⟨_, rfl⟩
    have hatm : addr < m := by rw [haddr, UInt64.toNat_mod, hB64]; exact Nat.mod_lt _ (by omega)
    refine WC.draw (Nob) [0, 1, 2, 3, 4, 5, 6, 7, 8, 9, 10, 11] [] mixed rfl rfl (fun wd_1 kd_1 zd_1 => ?_)
    have zs_kd_1 := kd_1.size
    replace hbk := hbk.pure kd_1
    replace hR := hR.pure kd_1
    replace hBa := hBa.pure kd_1
    replace hw := hw.pure kd_1
    apply DQ.step (E' := [(1, _)])
    case ho => rfl
    case hs => exact ⟨rfl, trivial⟩
    case hk => rfl
    case h1 =>
      intro wq_2 kq_2
      refine WL.fieldAddr (fld_47_2) rfl rfl (?_)
      refine WL.nil ?_
      exact WX.one ⟨rfl, by first | exact Chg.refl _ _ | assumption⟩
    apply DQ.step (E' := [(64, _)])
    case ho => rfl
    case hs => exact ⟨rfl, trivial⟩
    case hk => rfl
    case h1 =>
      intro wq_3 kq_3
      have zs_kq_3 := kq_3.size
      replace hbk := hbk.pure kq_3
      replace hR := hR.pure kq_3
      replace hBa := hBa.pure kq_3
      replace hw := hw.pure kq_3
      refine WL.loadB Tryz.isAgg3 hbk rfl rfl rfl (?_)
      refine WL.nil ?_
      exact WX.one ⟨rfl, by first | exact Chg.refl _ _ | assumption⟩
    apply DQ.step (E' := [(65, _)])
    case ho => rfl
    case hs => exact ⟨rfl, trivial⟩
    case hk => rfl
    case h1 =>
      intro wq_4 kq_4
      have zs_kq_4 := kq_4.size
      replace hbk := hbk.pure kq_4
      replace hR := hR.pure kq_4
      replace hBa := hBa.pure kq_4
      replace hw := hw.pure kq_4
      refine WL.c_i64_u64 Tryz.underlying3 Tryz.underlying23 rfl rfl (?_)
      refine WL.nil ?_
      exact WX.one ⟨rfl, by first | exact Chg.refl _ _ | assumption⟩
    apply DQ.step (E' := [(10, _)])
    case ho => rfl
    case hs => exact ⟨rfl, trivial⟩
    case hk => rfl
    case h1 =>
      intro wq_5 kq_5
      refine WL.move rfl rfl (?_)
      refine WL.nil ?_
      exact WX.one ⟨rfl, by first | exact Chg.refl _ _ | assumption⟩
    apply DQ.step (E' := [(67, _)])
    case ho => rfl
    case hs => exact ⟨rfl, trivial⟩
    case hk => rfl
    case h1 =>
      intro wq_6 kq_6
      have zs_kq_6 := kq_6.size
      replace hbk := hbk.pure kq_6
      replace hR := hR.pure kq_6
      replace hBa := hBa.pure kq_6
      replace hw := hw.pure kq_6
      refine WL.call eg_16 rfl rfl (Cells_calls (s := s0) (by rw [sd]; exact hBa) hR (by omega)) ?_
      rintro v w6 ⟨rfl, k6⟩
      rw [show s0.dn * (s0.sn - 2) = n * 7 from by rw [sd, sn]]
      have zs_k6 := k6.size
      replace hbk := hbk.pure k6
      replace hR := hR.pure k6
      replace hBa := hBa.pure k6
      replace hw := hw.pure k6
      refine WL.nil ?_
      exact WX.one ⟨rfl, by first | exact Chg.refl _ _ | assumption⟩
    apply DQ.step (E' := [(13, _)])
    case ho => rfl
    case hs => exact ⟨rfl, trivial⟩
    case hk => rfl
    case h1 =>
      intro wq_7 kq_7
      refine WL.move rfl rfl (?_)
      refine WL.nil ?_
      exact WX.one ⟨rfl, by first | exact Chg.refl _ _ | assumption⟩
    apply DQ.step (E' := [(68, _), (69, _)])
    case ho => rfl
    case hs => exact ⟨rfl, rfl, trivial⟩
    case hk => rfl
    case h1 =>
      intro wq_8 kq_8
      refine WL.sub64 rfl rfl (by constructor <;> omega) rfl ?_
      refine WL.nil ?_
      exact WX.one ⟨rfl, by first | exact Chg.refl _ _ | assumption⟩
    apply DQ.step (E' := [(70, _)])
    case ho => rfl
    case hs => exact ⟨rfl, trivial⟩
    case hk => rfl
    case h1 =>
      intro wq_9 kq_9
      refine WL.add64 rfl rfl (by constructor <;> omega) rfl ?_
      rw [show ((n * 7 : Nat) : Int) - (c : Int) + 1 = (m : Int) from by omega]
      refine WL.nil ?_
      exact WX.one ⟨rfl, by first | exact Chg.refl _ _ | assumption⟩
    apply DQ.step (E' := [(71, _)])
    case ho => rfl
    case hs => exact ⟨rfl, trivial⟩
    case hk => rfl
    case h1 =>
      intro wq_10 kq_10
      have zs_kq_10 := kq_10.size
      replace hbk := hbk.pure kq_10
      replace hR := hR.pure kq_10
      replace hBa := hBa.pure kq_10
      replace hw := hw.pure kq_10
      refine WL.c_i64_u64 Tryz.underlying3 Tryz.underlying23 rfl rfl (?_)
      refine WL.nil ?_
      exact WX.one ⟨rfl, by first | exact Chg.refl _ _ | assumption⟩
    apply DQ.step (E' := [(66, _), (72, _)])
    case ho => rfl
    case hs => exact ⟨rfl, rfl, trivial⟩
    case hk => rfl
    case h1 =>
      intro wq_11 kq_11
      refine WL.num rfl rfl (n_rem64 _ _ _ _ (by rw [hB64]; omega)) rfl ?_
      refine WL.nil ?_
      exact WX.one ⟨rfl, by first | exact Chg.refl _ _ | assumption⟩
    apply DQ.step (E' := [(73, _)])
    case ho => rfl
    case hs => exact ⟨rfl, trivial⟩
    case hk => rfl
    case h1 =>
      intro wq_12 kq_12
      have zs_kq_12 := kq_12.size
      replace hbk := hbk.pure kq_12
      replace hR := hR.pure kq_12
      replace hBa := hBa.pure kq_12
      replace hw := hw.pure kq_12
      refine WL.c_u64_i64s (n := addr) Tryz.underlying23 Tryz.underlying3 rfl ⟨haddr.symm, by omega⟩ rfl ?_
      refine WL.nil ?_
      exact WX.one ⟨rfl, by first | exact Chg.refl _ _ | assumption⟩
    apply DQ.step (E' := [(74, _)])
    case ho => rfl
    case hs => exact ⟨rfl, trivial⟩
    case hk => rfl
    case h1 =>
      intro wq_13 kq_13
      refine WL.assign rfl rfl (?_)
      refine WL.nil ?_
      exact WX.one ⟨rfl, by first | exact Chg.refl _ _ | assumption⟩
    refine DQ.done (fun _ => ?_)
    refine DL.done (fun we_14 ke_14 => ?_)
    have zs_ke_14 := ke_14.size
    replace hbk := hbk.pure ke_14
    replace hR := hR.pure ke_14
    replace hBa := hBa.pure ke_14
    replace hw := hw.pure ke_14
    refine WX.then_normal (WC.seq (WC.region (WL.move rfl rfl (WL.move rfl rfl (WL.move rfl rfl (WL.move rfl rfl (WL.move rfl rfl (?_))))))))
    refine WL.move rfl rfl (WL.move rfl rfl (?_))
    have zw7 := hw.size
    refine WL.toBytes Tryz.underlying9 Tryz.underlying26 Tryz.underlying5 rfl (by omega) rfl ?_
    intro a_hq c_hq w_hq hq k_hq z_hq
    have zs_k_hq := k_hq.size
    replace hbk := hbk.pure k_hq
    replace hR := hR.pure k_hq
    replace hBa := hBa.pure k_hq
    replace hw := hw.pure k_hq
    rw [← hb] at hq ⊢
    have l7 := hBa.lt
    have zw8 := hw.size
    refine WL.call eg_17 rfl rfl (awrite_good (s := s0) (by rw [sd]; exact hBa) (fun h => by have := h.2; omega) hR (fun y hy => by have h9 := hy.2; have := k2.size; omega) u0 (by omega) (by omega) addr hq.rsl (by omega) (by rw [sd, sn, hbl, ← hc]; omega) (by omega) (by rw [bgon_none sg]; decide)) ?_
    rintro v w9 ⟨rfl, hR9, k9⟩
    replace hBa := hBa.chg k9 (fun h => by have := h.2; omega)
    replace hw := hw.chg k9 (fun y h1 h2 => by have h3 : w.heap.size ≤ y := h2.1; omega)
    rw [sd] at hR9
    have hI := wrT_intact s0 2 addr (layA n b) (bad := []) (fun c h1 h2 hg => by rw [sg] at hg; cases hg)
    obtain ⟨d1, n1, -, -⟩ := wrT_dn s0 2 addr (layA n b) (layA n b).length
    have u1 := wrT_up u0 2 addr (layA n b) (layA n b).length
    have g1 : ∀ d, goneS (wrT s0 2 addr (layA n b) (layA n b).length) d = false := fun d => by rw [wrT_gone]; exact sg d
    obtain ⟨s1, es1⟩ : ∃ s1, s1 = wrT s0 2 addr (layA n b) (layA n b).length := ⟨_, rfl⟩
    rw [← es1] at hI hR9 d1 n1 u1 g1
    clear es1
    refine WL.eqlT rfl rfl rfl (by first | rfl | omega | decide) ?_
    refine WL.move rfl rfl (WL.want rfl rfl rfl (WL.move rfl rfl (WL.want rfl rfl rfl (?_))))
    refine WL.call eg_23 rfl rfl (FlushU hR9 u1) ?_
    rintro v w10 ⟨rfl, hR10, k10⟩
    replace hBa := hBa.chg k10 (fun h => by rcases h with h | h <;> omega)
    replace hw := hw.chg k10 (fun y h1 h2 => by rcases h2 with h | h <;> omega)
    refine WL.want rfl rfl rfl (?_)
    refine WL.eqlT rfl rfl rfl (by first | rfl | omega | decide) ?_
    refine WL.pickT rfl rfl rfl (WL.assign rfl rfl (WL.assign rfl rfl (WL.assign rfl rfl (WL.assign rfl rfl (WL.assign rfl rfl (WL.nil (WX.then_normal (?_))))))))
    refine WC.ret (?_)
    refine WX.ret5 (.inl rfl) Tryz.results22 rfl rfl rfl rfl rfl ?_
    exact ⟨_, rfl, ⟨R, a, addr, n, allS s1, rfl, ⟨by show s1.dn = n; rw [d1, sd], by show s1.sn = 9; rw [n1, sn], by omega, allS_up u1, g1, rfl, by omega, by rw [hbl, ← hc]; omega, all_intact hI⟩, hBa, hR10.mono (fun y hy => by rcases hy with h | h <;> omega), by omega⟩, hw⟩
end Go.Proofs.YtggecdldnpildaaGreat
namespace Go.Proofs.YtggecdldnpildaaGreat
open Go.ChangeShapes Go.WideShapes Go.ChangeAt Go.RowKit Go.Deep Go.HL
set_option maxRecDepth 100000
set_option maxRecDepth 10000
/-! an argument that says a block, where it lies and what befalls it -/
structure BkS (w : World) (x : BkV) : Prop where
  fl : RSl (· < w.heap.size) w ei x.fo x.fc x.fl
  hl : RSl (· < w.heap.size) w ei x.ho x.hc x.hl
  fb : ∀ y ∈ x.fl, -9223372036854775808 ≤ y ∧ y ≤ 9223372036854775807
  hb : ∀ y ∈ x.hl, -9223372036854775808 ≤ y ∧ y ≤ 9223372036854775807
section
variable {H : Type} {enc : TypeId × Value → H} {W : World}
theorem open_block {base : Nat} {v : Value} {d : DataW H} {p : List MemPlace} (hv : Value.okWide Tryz.prog W .any base 47 v) (h : DataW.Trod enc Tryz.prog W 0 (fun _ => true) true 47 v d p) :
    ∃ x : BkV, v = bkval x ∧ BkS W x ∧ True := by
  unfold Value.okWide at hv
  rw [Tryz.underlying47] at hv
  obtain ⟨ca, rfl, hsz, _⟩ := hv
  obtain ⟨n, hn⟩ := h
  have hl : ca.toList.length = 5 := by rw [Array.length_toList, hsz]; kernel_rfl
  have hn2 : DataW.trod enc Tryz.prog W 0 (fun _ => true) true n 47 ca.toList = some (d, p) := hn
  obtain ⟨cs, hcs⟩ : ∃ cs, cs = ca.toList := ⟨_, rfl⟩
  have hca : ca = cs.toArray := by rw [hcs]
  rw [← hcs] at hn2 hl
  rw [hca]
  clear hca hcs hsz hn
  obtain ⟨xs, m, _, he, _, hx, hf⟩ := DataW.trod_struct Tryz.underlying47 hn2
  match cs, hl with
  | [c0, c1, c2, c3, c4], _ =>
    match xs, hx with
    | [y0, y1, y2, y3, y4], _ =>
      have f0 : DataW.trod enc Tryz.prog W 0 (fun _ => true) true m 3 (([c0, c1, c2, c3, c4].drop 0).take (Tryz.prog.cellsOf 3)) = some y0 := hf 0 _ rfl
      have f1 : DataW.trod enc Tryz.prog W 0 (fun _ => true) true m 9 (([c0, c1, c2, c3, c4].drop 1).take (Tryz.prog.cellsOf 9)) = some y1 := hf 1 _ rfl
      have f2 : DataW.trod enc Tryz.prog W 0 (fun _ => true) true m 3 (([c0, c1, c2, c3, c4].drop 2).take (Tryz.prog.cellsOf 3)) = some y2 := hf 2 _ rfl
      have f3 : DataW.trod enc Tryz.prog W 0 (fun _ => true) true m 39 (([c0, c1, c2, c3, c4].drop 3).take (Tryz.prog.cellsOf 39)) = some y3 := hf 3 _ rfl
      have f4 : DataW.trod enc Tryz.prog W 0 (fun _ => true) true m 39 (([c0, c1, c2, c3, c4].drop 4).take (Tryz.prog.cellsOf 39)) = some y4 := hf 4 _ rfl
      rw [show Tryz.prog.cellsOf 3 = 1 from by kernel_rfl] at f0 f2
      rw [show Tryz.prog.cellsOf 9 = 1 from by kernel_rfl] at f1
      rw [show Tryz.prog.cellsOf 39 = 1 from by kernel_rfl] at f3 f4
      obtain ⟨k0, e0, _, _⟩ := DataW.trod_int Tryz.underlying3 f0
      obtain ⟨s1, e1, _, _⟩ := DataW.trod_string Tryz.underlying9 f1
      obtain ⟨k2, e2, _, _⟩ := DataW.trod_int Tryz.underlying3 f2
      obtain ⟨a3, c3', l3, e3, h3, q3⟩ := open_trod Tryz.underlying39 ei (fun x _ => -9223372036854775808 ≤ x ∧ x ≤ 9223372036854775807) (by kernel_rfl) (fun n cs y a b c => el_i64 Tryz.underlying3 n cs y a b c) f3
      obtain ⟨a4, c4', l4, e4, h4, q4⟩ := open_trod Tryz.underlying39 ei (fun x _ => -9223372036854775808 ≤ x ∧ x ≤ 9223372036854775807) (by kernel_rfl) (fun n cs y a b c => el_i64 Tryz.underlying3 n cs y a b c) f4
      injection e0 with e0
      injection e1 with e1
      injection e2 with e2
      injection e3 with e3
      injection e4 with e4
      subst e0; subst e1; subst e2; subst e3; subst e4
      have key : ∀ {y : DataW H × List MemPlace} {l : List Int}, (y.1 = .nil ∧ l = [] ∨ ∃ el sp, y.1 = .slice el sp ∧ l.length = el.length ∧ ∀ (i : Nat) (x : Int), l[i]? = some x → ∃ d, el[i]? = some d ∧ (-9223372036854775808 ≤ x ∧ x ≤ 9223372036854775807)) → ∀ x ∈ l, -9223372036854775808 ≤ x ∧ x ≤ 9223372036854775807 := by
        intro y l h x hx
        rcases h with ⟨_, h6⟩ | ⟨el, sp, _, _, h6⟩
        · rw [h6] at hx
          cases hx
        · obtain ⟨i, hil, rfl⟩ := List.getElem_of_mem hx
          obtain ⟨d, _, h7⟩ := h6 i _ (List.getElem?_eq_getElem hil)
          exact h7
      exact ⟨⟨k0, s1, k2, a3, c3', l3, a4, c4', l4⟩, rfl, ⟨h3, h4, key q3, key q4⟩, trivial⟩
theorem reach_block {d : DataW H} {ts : List TypeId} {ds : List (DataW H)} {j : Nat} (_ : (DataW.weightsEach Tryz.prog ts ds).all (· ≤ reachBytes) = true) (_ : ts[j]? = some 47) (_ : ds[j]? = some d) (_ : True) : True := trivial
end
end Go.Proofs.YtggecdldnpildaaGreat
namespace Go.Proofs.YtggecdldnpildaaGreat
open Go.RowKit Go.HL
set_option maxRecDepth 100000

/-! four drives lost: the law -/
def Whole (s : RA) (f a : Nat) (cells : List (List UInt8)) : Prop := ∀ (j : Nat) (c : List UInt8), cells[j]? = some c → goneS s (((a + j) % s.dn : Nat) : Int) = false → heldS s (plN s.dn f (a + j)) = c
theorem Intact.whole {s : RA} {f a : Nat} {cells : List (List UInt8)} (h : Intact s f a cells []) : Whole s f a cells := fun j c hc _ => (h j c hc (by simp)).2
theorem Whole.intact {s : RA} (h5 : 5 ≤ s.dn) {f a : Nat} {b : List UInt8} (h : Whole s f a (layA s.dn b)) : Intact s f a (layA s.dn b) (bgon s a b.length) := fun j c hc hn => by
  have hj := (List.getElem?_eq_some_iff.1 hc).1
  rw [layA_len _ _ (by omega)] at hj
  have hd := drvA_mem (n := s.dn) (a := a) (cost := costA s.dn (secsA b.length)) (by omega) hj
  have hg : goneS s (((a + j) % s.dn : Nat) : Int) = false := by
    rcases hx : goneS s (((a + j) % s.dn : Nat) : Int) with _ | _
    · rfl
    · exact absurd (List.mem_filter.2 ⟨hd, hx⟩) hn
  exact ⟨hg, h j c hc hg⟩
end Go.Proofs.YtggecdldnpildaaGreat
/-! plain: a block's last sector, behind the block's end -/
namespace Go.HL
theorem drop_set_ge {p : List UInt8} {m i : Nat} {x : UInt8} (h : m ≤ i) : (p.set i x).drop m = (p.drop m).set (i - m) x := by
  rw [List.drop_set, if_neg (by omega)]
theorem take_set_ge {p : List UInt8} {m i : Nat} {x : UInt8} (h : m ≤ i) : (p.set i x).take m = p.take m := by
  rw [List.take_set, List.set_eq_of_length_le (by rw [List.length_take]; omega)]
theorem take_set_lt {p : List UInt8} {m i : Nat} {x : UInt8} : (p.set i x).take m = (p.take m).set i x := List.take_set
theorem chunksA_at : ∀ (k i : Nat) (p : List UInt8), i < k → (chunksA k p)[i]? = some ((p.drop (128 * i)).take 128)
  | 0, i, p, h => by omega
  | k + 1, 0, p, h => by simp [chunksA]
  | k + 1, i + 1, p, h => by
    rw [chunksA, List.getElem?_cons_succ, chunksA_at k i (p.drop 128) (by omega), List.drop_drop, show 128 + 128 * i = 128 * (i + 1) from by omega]
theorem wrgA_nil (ds : List Int) : wrgA ds [] = [] := by simp [wrgA]
theorem rbA_nil {cols : List (List UInt8)} {k : Nat} (hk : k ≤ 13) (hl : cols.length = k + 3) (hall : ∀ c ∈ cols, c.length = 128) : rbA cols [] k = cols := by
  refine rbA_of hk (Nat.zero_le _) ⟨hl, hall, fun i _ _ => rfl, fun q _ h => ?_⟩
  exfalso
  rcases h with h | h
  · cases h
  · have e : lostL k [] = [] := by simp [lostL]
    rw [fromL, e] at h
    simp at h
end Go.HL
namespace Go.Proofs.YtggecdldnpildaaGreat
open Go.RowKit Go.HL
set_option maxRecDepth 100000

/-- the data cells of rows hold these bytes -/
def Datas (s : RA) (f : Nat) : List (Nat × Nat) → List UInt8 → Prop
  | [], _ => True
  | r :: rs, p => (∀ i, i < r.2 → heldS s (plN s.dn f (r.1 + (i + 3))) = (p.drop (128 * i)).take 128) ∧ Datas s f rs (p.drop (128 * r.2))
theorem datA_nil {s : RA} (h : s.ok) {f : Nat} (hg : ∀ d, goneS s d = false) : ∀ (rs : List (Nat × Nat)) (p : List UInt8), (∀ r ∈ rs, 1 ≤ r.2 ∧ r.2 + 3 ≤ s.dn) → Datas s f rs p → datA (rs.map (stpA s f)) [] = p.take (128 * datR rs)
  | [], p, _, _ => by simp [datA, datR]
  | r :: rs, p, hr, hD => by
    obtain ⟨h1, h2⟩ := hD
    obtain ⟨l1, l2⟩ := stpA_len s f r
    have hr1 := hr r (List.mem_cons_self ..)
    have hd := h.dn
    have hcol : ∀ c, colA s f c = heldS s (plN s.dn f c) := fun c => by rw [colA, if_neg (by rw [hg]; decide)]
    have e1 : rbA (stpA s f r).1 [] r.2 = (stpA s f r).1 := rbA_nil (by omega) l1 (fun c hc => by
      obtain ⟨i, hi, rfl⟩ := List.mem_map.1 (show c ∈ (List.range (r.2 + 3)).map fun i => colA s f (r.1 + cix r.2 i) from hc)
      rw [hcol]
      exact heldS_len h _)
    have e2 : (stpA s f r).1.take r.2 = chunksA r.2 p := by
      apply List.ext_getElem?
      intro i
      rw [List.getElem?_take]
      split
      · rename_i hi
        rw [chunksA_at _ _ _ hi, stpA_col (by omega), hcol, cix, if_pos hi, h1 i hi]
      · rename_i hi
        rw [List.getElem?_eq_none (by rw [chunksA_len]; omega)]
    rw [List.map_cons, datA_cons, wrgA_nil, l1, Nat.add_sub_cancel, e1, e2, chunksA_flat, datA_nil h hg rs _ (fun r' hr' => hr r' (List.mem_cons_of_mem _ hr')) h2, datR_cons, Nat.mul_add, List.take_add]
/-- but for a byte of the last cell -/
theorem tail_rows {s s1 : RA} (h5 : 4 ≤ s.dn) (hsd : s1.dn = s.dn) {f L off : Nat} {X : UInt8} (hoff : off < 128) (hX : heldS s1 (plN s.dn f L) = (heldS s (plN s.dn f L)).set off X) (ho : ∀ c, c ≠ L → heldS s1 (plN s.dn f c) = heldS s (plN s.dn f c)) : ∀ (l a : Nat) (p : List UInt8), 1 ≤ l → 128 * l ≤ p.length → L + 1 = a + sumR (rowsA s.dn a l) → (∀ j c, (layR (rowsA s.dn a l) p)[j]? = some c → heldS s (plN s.dn f (a + j)) = c) → Datas s1 f (rowsA s.dn a l) (p.set (128 * (l - 1) + off) X) := by
  intro l
  induction l using Nat.strongRecOn with
  | _ l ih =>
    intro a p hl hp hL hI
    obtain ⟨k, hk⟩ : ∃ k, k = min l (s.dn - 3) := ⟨_, rfl⟩
    have hk1 : 1 ≤ k ∧ k + 3 ≤ s.dn ∧ k ≤ l := by omega
    rw [rowsA_cons h5 hl, ← hk] at hI hL ⊢
    rw [sumR_cons] at hL
    dsimp only at hI hL ⊢
    rw [layR] at hI
    dsimp only at hI
    have hll : (three (chunksA k p) 128 k ++ chunksA k p).length = k + 3 := by rw [List.length_append, three_len, chunksA_len]; omega
    have hcell : ∀ i, i < k → heldS s (plN s.dn f (a + (i + 3))) = (p.drop (128 * i)).take 128 := fun i hi => hI (i + 3) _ (by rw [List.append_assoc, List.getElem?_append_right (by rw [three_len]; omega), three_len, Nat.add_sub_cancel, List.getElem?_append_left (by rw [chunksA_len]; exact hi), chunksA_at _ _ _ hi])
    rcases Nat.eq_zero_or_pos (l - k) with h0 | h0
    · rw [h0]
      rw [h0] at hL
      have e0 : sumR (rowsA s.dn (a + k + 3) 0) = 0 := rfl
      rw [e0] at hL
      refine ⟨fun i hi => ?_, trivial⟩
      dsimp only at hi ⊢
      rw [hsd]
      rcases Nat.lt_or_ge (i + 1) k with h1 | h1
      · rw [ho _ (by omega), hcell i hi]
        apply List.ext_getElem?
        intro j
        rw [List.getElem?_take, List.getElem?_take, List.getElem?_drop, List.getElem?_drop, List.getElem?_set]
        split
        · rw [if_neg (by omega)]
        · rfl
      · have hi2 : i + 1 = k := by omega
        have e1 : a + (i + 3) = L := by omega
        rw [e1, hX, ← e1, hcell i hi, show l - 1 = i from by omega, drop_set_ge (by omega), take_set_lt, Nat.add_sub_cancel_left]
    · refine ⟨fun i hi => ?_, ?_⟩
      · dsimp only at hi ⊢
        have h9 : 1 ≤ sumR (rowsA s.dn (a + k + 3) (l - k)) := by
          rw [rowsA_cons h5 h0, sumR_cons]
          dsimp only
          omega
        rw [hsd, ho _ (by omega), hcell i hi]
        apply List.ext_getElem?
        intro j
        rw [List.getElem?_take, List.getElem?_take, List.getElem?_drop, List.getElem?_drop, List.getElem?_set]
        split
        · rw [if_neg (by omega)]
        · rfl
      · dsimp only
        rw [drop_set_ge (by omega), show 128 * (l - 1) + off - 128 * k = 128 * (l - k - 1) + off from by omega]
        refine ih (l - k) (by omega) (a + k + 3) (p.drop (128 * k)) h0 (by rw [List.length_drop]; omega) (by omega) (fun j c hc => ?_)
        have h1 := hI (k + 3 + j) c (by rw [List.getElem?_append_right (by omega), hll, Nat.add_sub_cancel_left]; exact hc)
        rw [show a + (k + 3 + j) = a + k + 3 + j from by omega] at h1
        exact h1
end Go.Proofs.YtggecdldnpildaaGreat
