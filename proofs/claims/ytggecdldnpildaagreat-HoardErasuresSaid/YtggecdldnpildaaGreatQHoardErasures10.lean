import Derived.Test.YtggecdldnpildaaGreatQHoardErasures9
namespace Go.Proofs.YtggecdldnpildaaGreat
open Go.RowKit Go.HL
set_option maxRecDepth 100000

/-! a block's drives -/
theorem drives_good {A : Nat → Prop} {w : World} {a R f : Nat} {s : RA} (hB : AB w a R s.dn f) (h : RK A w R s) (h5 : 5 ≤ s.dn) (hf : f < s.sn) (addr size : Nat) (hs : 1 ≤ size ∧ size ≤ 1024) (ha : addr + costA s.dn (secsA size) ≤ s.dn * (s.sn - f)) :
    Calls Tryz.prog 21 [ptr a, vi addr, vi size].toArray w (Ret fun v w' => (∃ ao c, v = .tuple #[.slice ao (bdrv s addr size).length c, vi 0] ∧ Row (w.heap.size ≤ ·) w' 3 ei ao c (bdrv s addr size)) ∧ Chg Nob w w') := by
  have hw := Chg.refl Nob w
  have la := hB.lt
  have hdn := h.ok.dn
  have hsn := h.ok.sn
  have hm : s.dn * (s.sn - f) ≤ 16 * 2000 := Nat.mul_le_mul (by omega) (by omega)
  have h8 := secsA_le hs.2
  have h20 := (costA_is ⟨h5, hdn.2⟩ h8).2
  have ecost : costA s.dn (secsA size) = costA s.dn (secsA size) := rfl
  obtain ⟨cost, hcost⟩ : ∃ c, c = costA s.dn (secsA size) := ⟨_, rfl⟩
  rw [← hcost] at ha h20
  refine Calls.of_WC Tryz.func21 rfl Tryz.ntmps21 (by simp) ?_
  refine WC.seq (WC.region (WL.assign rfl rfl (WL.assign rfl rfl (WL.nil (WX.then_normal (WC.seq (WC.region (?_))))))))
  refine WL.move rfl rfl (WL.move rfl rfl (?_))
  refine WL.call eg_15 rfl rfl (cost_good hB ⟨h5, hdn.2⟩ size hs) ?_
  rintro v w1 ⟨rfl, k1⟩
  rw [← hcost]
  have zs_k1 := k1.size
  replace hB := hB.pure k1
  replace h := h.pure k1
  replace hw := hw.pure k1
  refine WL.move rfl rfl (WL.extract rfl rfl rfl (WL.extract rfl rfl rfl (WL.assign rfl rfl (WL.assign rfl rfl (WL.nil (WX.then_normal (WC.seq (?_))))))))
  refine WC.seq (WC.region (WL.move rfl rfl (?_)))
  refine WL.neqF rfl rfl rfl (by rfl) ?_
  refine WL.move rfl rfl (WL.want rfl rfl rfl (WL.move rfl rfl (WL.want rfl rfl rfl (?_))))
  refine WL.lssF rfl rfl rfl (by omega) ?_
  refine WL.pickF rfl rfl rfl (WL.move rfl rfl (WL.want rfl rfl rfl (WL.move rfl rfl (WL.want rfl rfl rfl (WL.move rfl rfl (WL.want rfl rfl rfl (?_)))))))
  refine WL.call eg_16 rfl rfl (Cells_calls hB h hf) ?_
  rintro v w1 ⟨rfl, k1⟩
  have zs_k1 := k1.size
  replace hB := hB.pure k1
  replace h := h.pure k1
  replace hw := hw.pure k1
  refine WL.want rfl rfl rfl (WL.move rfl rfl (WL.want rfl rfl rfl (?_)))
  refine WL.sub64 rfl rfl (by constructor <;> omega) rfl ?_
  refine WL.want rfl rfl rfl (?_)
  refine WL.gtrF rfl rfl rfl (by omega) ?_
  refine WL.pickF rfl rfl rfl (WL.nil (WX.then_normal (WC.cond_false rfl (WC.skip (WX.then_normal (WC.seq (WC.region (?_))))))))
  refine WL.assign rfl rfl (WL.nil (WX.then_normal (WC.seq (WC.seq (WC.region (WL.move rfl rfl (WL.move rfl rfl (?_))))))))
  refine WL.nilCheck rfl rfl (WL.fieldAddr (fld_81_1) rfl rfl (WL.loadB Tryz.isAgg3 hB rfl rfl rfl (?_)))
  refine WL.mini rfl rfl rfl ?_
  rw [show (if (s.dn : Int) < (cost : Int) then (s.dn : Int) else (cost : Int)) = ((min cost s.dn : Nat) : Int) from by split <;> omega]
  refine WL.move rfl rfl (WL.nil (WX.then_normal (WC.block (?_))))
  obtain ⟨m, hmm⟩ : ∃ m, m = min cost s.dn := ⟨_, rfl⟩
  obtain ⟨L, hL⟩ : ∃ L : Nat → List Int, L = fun i => (List.range i).map fun c => (((addr + c) % s.dn : Nat) : Int) := ⟨_, rfl⟩
  have hLl : ∀ i, (L i).length = i := fun i => by rw [hL]; simp
  have hLs : ∀ i, L (i + 1) = L i ++ [(((addr + i) % s.dn : Nat) : Int)] := fun i => by rw [hL]; simp [List.range_succ]
  rw [← hmm]
  refine WC.loop (σ := (Option Addr × Nat) × Nat) (fun q => [(0, ptr a), (1, vi addr), (10, .slice q.1.1 (L q.2).length q.1.2), (37, vi (m : Nat)), (38, vi (q.2 : Int))]) (fun q w' => q.2 ≤ m ∧ AB w' a R s.dn f ∧ Row (w.heap.size ≤ ·) w' 3 ei q.1.1 q.1.2 (L q.2) ∧ Chg Nob w w') (fun q => m - q.2) ((none, 0), 0) ⟨rfl, rfl, by show some (Value.slice none 0 0) = some (Value.slice none (L 0).length 0); rw [hLl], rfl, rfl, trivial⟩ ⟨Nat.zero_le _, hB, by rw [show L 0 = [] from by rw [hL]; rfl]; exact Row.nil _ _ _ _, hw⟩ ?_
  clear hB hw h
  rintro ⟨⟨ao, c⟩, i⟩ w2 ⟨hi, hB, hO, hw⟩
  simp only at hi hO
  dsimp only
  have zw1 := hw.size
  have hLi := hLl i
  refine WC.seq (WC.region (?_))
  refine WL.lss? rfl rfl rfl (fun h39 => ?_) (fun h39 => ?_)
  ·
    refine WL.nil (WX.then_normal (WC.seq (WC.cond_true rfl (WC.skip (WX.then_normal (WC.seq (WC.block (?_))))))))
    refine WC.seq (WC.region (WL.move rfl rfl (WL.assign rfl rfl (WL.nil (WX.then_normal (WC.region (WL.move rfl rfl (?_))))))))
    refine WL.move rfl rfl (WL.move rfl rfl (?_))
    refine WL.add64 rfl rfl (by constructor <;> omega) rfl ?_
    refine WL.move rfl rfl (WL.nilCheck rfl rfl (WL.fieldAddr (fld_81_1) rfl rfl (WL.loadB Tryz.isAgg3 hB rfl rfl rfl (?_))))
    refine WL.rem64i rfl rfl (by constructor <;> omega) rfl ?_
    rw [show ((addr : Int) + (i : Int)) % (s.dn : Int) = (((addr + i) % s.dn : Nat) : Int) from by rw [Int.natCast_emod, Int.natCast_add]]
    refine WL.build (e := ei) [(((addr + i) % s.dn : Nat) : Int)] Tryz.underlying39 Tryz.sizeOf3 Tryz.zeroValue3 rfl rfl rfl (by simp [Value.cells] <;> rfl) (by decide) rfl ?_
    intro a_q50 w_q50 q50 l_q50 z_q50 k_q50
    have zs_k_q50 := k_q50.size
    replace hB := hB.pure k_q50
    replace hO := hO.pure k_q50
    replace hw := hw.pure k_q50
    refine WL.append (e := ei) info_3 rfl Tryz.underlying39 rfl rfl hO (q50.rsl.src Tryz.underlying39) (by (try simp only [List.length_append, List.length_cons, List.length_nil] at *); omega) (by intro b hb; first | (apply hS; omega) | ((try dsimp only); omega)) rfl ?_
    intro a_q51 c_q51 w_q51 q51 g_q51 n_q51
    have z_q51 := g_q51.chg.size
    have zs_g_q51_chg := g_q51.chg.size
    replace hB := hB.chg g_q51.chg (by intro h1; exfalso; have h4 := h1.2; (try dsimp only at *); omega)
    replace hw := hw.chg g_q51.chg (by intros; exfalso; (try dsimp only at *); omega)
    rw [← hLs] at q51 ⊢
    refine WL.assign rfl rfl (WL.nil (WX.block_normal (WX.then_normal (WC.region (WL.add64 rfl rfl (by omega) rfl (WL.move rfl rfl (WL.nil (?_))))))))
    exact WX.loop_next ((a_q51, c_q51), i + 1) ⟨rfl, rfl, rfl, rfl, rfl, trivial⟩ ⟨by show i + 1 ≤ m; omega, hB, q51, hw⟩ (by show m - (i + 1) < m - i; omega)
  ·
    refine WL.nil (WX.then_normal (WC.seq (WC.cond_false rfl (WC.exit (WX.then_exit (WX.then_exit (WX.block_here (?_))))))))
    refine WX.then_normal (WC.seq (WC.region (WL.move rfl rfl (?_))))
    have him : i = m := by omega
    subst him
    have hat := hO.at_
    refine WL.call eg_51 rfl rfl (sort_calls hO (by omega)) ?_
    rintro v w3 ⟨rfl, hS, k3⟩
    have hlen : (srt (L i)).length = (L i).length := srt_len _
    rw [← hlen]
    replace hB := hB.chg k3 (fun hx => by have := hat.eqb hx; have := hB.lt; have := hw.size; omega)
    replace hw := hw.chg k3 (fun x hx hm => by have := hat.eqb hm; omega)
    refine WL.nil (WX.then_normal (WC.seq (WC.region (WL.move rfl rfl (WL.assign rfl rfl (WL.assign rfl rfl (WL.nil (?_))))))))
    refine WX.then_normal (WC.ret (?_))
    refine WX.ret2 (.inl rfl) Tryz.results21 rfl rfl ?_
    have e : bdrv s addr size = srt (L i) := by
      rw [bdrv, drvA, hL, hmm, hcost]
    rw [e]
    exact ⟨_, rfl, ⟨ao, c, rfl, hS⟩, hw⟩
end Go.Proofs.YtggecdldnpildaaGreat
namespace Go.Proofs.YtggecdldnpildaaGreat
open Go.RowKit Go.HL
set_option maxRecDepth 100000

/-! will a set of drives do? -/
abbrev fnFit (g1 g2 g3 g4 g5 g6 : Nat) : Value := .func (.func 49) #[] #[ptr g1, ptr g2, ptr g3, ptr g4, ptr g5, ptr g6]
structure FE (N : Nat) (w : World) (g1 g2 g3 g4 g5 g6 : Nat) (ga : Option Addr) (gc : Nat) (G : List Int) (la : Option Addr) (lc : Nat) (l : List Stp) (size : Nat) (sum : ByteArray) : Prop where
  b1 : Blk w g1 39 [.slice ga G.length gc]
  b2 : Blk w g2 91 [.slice la l.length lc]
  b3 : Blk w g3 3 [vi size]
  b4 : Blk w g4 9 [.string sum]
  b5 : ∃ fa fn fc, Blk w g5 26 [.slice fa fn fc]
  b6 : ∃ fa fn fc, Blk w g6 39 [.slice fa fn fc]
  rG : RSl (· < N) w ei ga gc G
  rl : RSK (· < N) w 121 estp la lc l
  rI : SI (· < N) w 26 5 3 l
  ne : (g1 < g5 ∧ g2 < g5 ∧ g3 < g5 ∧ g4 < g5) ∧ g5 < g6 ∧ N ≤ g5
/-- what was found -/
def Got (N2 : Nat) (w : World) (g5 g6 sz : Nat) (B : List UInt8) (bad : List Int) : Prop := B.length = sz ∧ ∃ fa fc ba bc, Blk w g5 26 [.slice fa B.length fc] ∧ Row (fun x => N2 ≤ x) w 5 eb fa fc B ∧ Blk w g6 39 [.slice ba bad.length bc] ∧ Row (fun x => N2 ≤ x) w 3 ei ba bc bad
section
variable {N N2 g1 g2 g3 g4 g5 g6 gc lc size : Nat} {w w' : World} {ga la : Option Addr} {G : List Int} {l : List Stp} {sum : ByteArray} {M : Nat → Prop}
theorem FE.pure (h : FE N w g1 g2 g3 g4 g5 g6 ga gc G la lc l size sum) (k : Chg Nob w w') : FE N w' g1 g2 g3 g4 g5 g6 ga gc G la lc l size sum := by
  obtain ⟨b1, b2, b3, b4, ⟨x1, x2, x3, b5⟩, ⟨y1, y2, y3, b6⟩, rG, rl, rI, ne⟩ := h
  exact ⟨b1.pure k, b2.pure k, b3.pure k, b4.pure k, ⟨_, _, _, b5.pure k⟩, ⟨_, _, _, b6.pure k⟩, rG.pure k, rl.pure k, rI.pure k, ne⟩
theorem Got.pure {B : List UInt8} {bad : List Int} (h : Got N2 w g5 g6 size B bad) (k : Chg Nob w w') : Got N2 w' g5 g6 size B bad := by
  obtain ⟨hl, fa, fc, ba, bc, h1, h2, h3, h4⟩ := h
  exact ⟨hl, fa, fc, ba, bc, h1.pure k, h2.pure k, h3.pure k, h4.pure k⟩
end
noncomputable def fitB (G : List Int) (l : List Stp) (size : Nat) (sum : ByteArray) (set : List Int) : Bool := decide ((⟨(sumB ((datA (l.map Stp.abs) (srt (G ++ set))).take size)).toArray⟩ : ByteArray) = sum)
set_option maxHeartbeats 4000000 in
theorem fits_calls {S : Nat → Prop} {w : World} {N g1 g2 g3 g4 g5 g6 gc lc sc size : Nat} {ga la sa : Option Addr} {G set : List Int} {l : List Stp} {sum : ByteArray} (hE : FE N w g1 g2 g3 g4 g5 g6 ga gc G la lc l size sum) (hset : RSl S w ei sa sc set) (hG3 : G.length ≤ 100) (hs3 : set.length ≤ 100)
    (hok : ∀ s ∈ l, OkCol s.abs.1 s.abs.2 (srt (G ++ set))) (hl8 : l.length ≤ 8) (hsz : 1 ≤ size ∧ size ≤ 128 * kR l) (hk8 : kR l ≤ 100) (hs1 : size ≤ 1024) :
    Calls Tryz.prog 49 [.slice sa set.length sc, ptr g1, ptr g2, ptr g3, ptr g4, ptr g5, ptr g6].toArray w (Ret fun v w' => v = .bool (fitB G l size sum set) ∧ FE N w' g1 g2 g3 g4 g5 g6 ga gc G la lc l size sum ∧ (fitB G l size sum set = true → Got w.heap.size w' g5 g6 size ((datA (l.map Stp.abs) (srt (G ++ set))).take size) (srt (G ++ set))) ∧ Chg (fun x => x = g5 ∨ x = g6) w w') := by
  have hw := Chg.refl (fun x => x = g5 ∨ x = g6) w
  obtain ⟨b1, b2, b3, b4, ⟨x1, x2, x3, b5⟩, ⟨y1, y2, y3, b6⟩, rG, rl, rI, ne⟩ := hE
  have l5 := b5.lt
  have l6 := b6.lt
  replace hset := hset.old
  refine Calls.of_WC Tryz.func49 rfl Tryz.ntmps49 (by simp) ?_
  refine WC.seq (WC.region (WL.assign rfl rfl (WL.nil (WX.then_normal (WC.seq (WC.region (WL.loadB Tryz.isAgg39 b1 rfl rfl rfl (?_))))))))
  refine WL.move rfl rfl (?_)
  refine WL.build (e := erz) [⟨ga, gc, G⟩, ⟨sa, sc, set⟩] Tryz.underlying124 Tryz.sizeOf39 Tryz.zeroValue39 rfl rfl rfl (by simp [Value.cells] <;> rfl) (by decide) rfl ?_
  intro a_q14 w_q14 q14 l_q14 z_q14 k_q14
  replace b1 := b1.pure k_q14
  replace b2 := b2.pure k_q14
  replace b3 := b3.pure k_q14
  replace b4 := b4.pure k_q14
  replace b5 := b5.pure k_q14
  replace b6 := b6.pure k_q14
  replace rG := rG.pure k_q14
  replace rl := rl.pure k_q14
  replace rI := rI.pure k_q14
  replace hset := hset.pure k_q14
  replace hw := hw.pure k_q14
  refine WL.call eg_50 rfl rfl (zconcat_calls (S1 := fun _ => True) (r1 := ⟨ga, gc, G⟩) (r2 := ⟨sa, sc, set⟩) q14.rsl (rG.mono (fun _ _ => trivial)) (hset.mono (fun _ _ => trivial)) (by show G.length ≤ 10000; omega) (by show set.length ≤ 10000; omega)) ?_
  rintro v w2 ⟨⟨ab, cb, rfl, hb0⟩, k2⟩
  have zw1 := hw.size
  have zs2 := k2.size
  replace b1 := b1.pure k2
  replace b2 := b2.pure k2
  replace b3 := b3.pure k2
  replace b4 := b4.pure k2
  replace b5 := b5.pure k2
  replace b6 := b6.pure k2
  replace rG := rG.pure k2
  replace rl := rl.pure k2
  replace rI := rI.pure k2
  replace hw := hw.pure k2
  have hb1 : Row (fun x => w.heap.size ≤ x) w2 3 ei ab cb (G ++ set) := hb0.mono (fun x hx => by have h9 : _ ≤ x := hx; show w.heap.size ≤ x; omega)
  clear hb0
  refine WL.assign rfl rfl (WL.nil (WX.then_normal (WC.seq (WC.region (WL.move rfl rfl (?_))))))
  have hat := hb1.at_
  refine WL.call eg_51 rfl rfl (sort_calls hb1 (by show (G ++ set).length ≤ 100000; rw [List.length_append]; omega)) ?_
  rintro v w3 ⟨rfl, hb2, k3⟩
  have zw2 := hw.size
  have hM : ∀ x, x < w.heap.size → Eqb ab x → False := fun x h1 h2 => by have := hat.eqb h2; omega
  have lG : ∀ x, x < N → x < w.heap.size := fun x hx => by omega
  have e1 := b1.lt
  replace b1 := b1.chg k3 (fun h => hM _ (by omega) h)
  replace b2 := b2.chg k3 (fun h => hM _ (by omega) h)
  replace b3 := b3.chg k3 (fun h => hM _ (by omega) h)
  replace b4 := b4.chg k3 (fun h => hM _ (by omega) h)
  replace b5 := b5.chg k3 (fun h => hM _ (by omega) h)
  replace b6 := b6.chg k3 (fun h => hM _ (by omega) h)
  replace rG := rG.chg k3 (fun x _ h1 h2 => hM x (lG x h1) h2)
  replace rl := rl.chg k3 (fun x _ h1 _ h2 => hM x (lG x h1) h2)
  replace rI := rI.chg k3 (fun x _ h1 h2 => hM x (lG x h1) h2)
  replace hw := hw.chg k3 (fun x h1 h2 => (hM x h1 h2).elim)
  obtain ⟨bad, hbad⟩ : ∃ bad, bad = srt (G ++ set) := ⟨_, rfl⟩
  have hlen : (G ++ set).length = bad.length := by rw [hbad, srt_len]
  rw [hlen]
  rw [← hbad] at hb2 hok ⊢
  refine WL.nil (WX.then_normal (WC.seq (WC.region (WL.loadB Tryz.isAgg91 b2 rfl rfl rfl (WL.loadB Tryz.isAgg3 b3 rfl rfl rfl (WL.move rfl rfl (?_)))))))
  refine WL.call eg_52 rfl rfl (data_calls rl rI hb2.rsl hok hl8 size hsz hk8) ?_
  rintro v w4 ⟨⟨a4, c4, rfl, hB, hBl⟩, k4⟩
  have zw3 := hw.size
  replace b1 := b1.pure k4
  replace b2 := b2.pure k4
  replace b3 := b3.pure k4
  replace b4 := b4.pure k4
  replace b5 := b5.pure k4
  replace b6 := b6.pure k4
  replace rG := rG.pure k4
  replace rl := rl.pure k4
  replace rI := rI.pure k4
  replace hw := hw.pure k4
  replace hb2 := hb2.pure k4
  obtain ⟨B, eB⟩ : ∃ B, B = (datA (l.map Stp.abs) bad).take size := ⟨_, rfl⟩
  rw [← eB] at hB ⊢
  have hBs : B.length = size := by rw [eB, List.length_take]; omega
  have hfb : fitB G l size sum set = decide ((⟨(sumB B).toArray⟩ : ByteArray) = sum) := by rw [fitB, ← hbad, eB]
  have hB1 : Row (fun x => w.heap.size ≤ x) w4 5 eb a4 c4 B := hB.mono (fun x hx => by have h9 : _ ≤ x := hx; show w.heap.size ≤ x; omega)
  clear hB
  by_cases hfit : (⟨(sumB B).toArray⟩ : ByteArray) = sum
  ·
    refine WL.move rfl rfl (WL.extract rfl rfl rfl (WL.extract rfl rfl rfl (WL.assign rfl rfl (WL.assign rfl rfl (WL.nil (WX.then_normal (WC.seq (?_))))))))
    refine WC.seq (?_)
    refine WC.draw (Nob) [0, 1, 2, 3, 4, 5, 6, 7] [] mixed rfl rfl (fun wd_1 kd_1 zd_1 => ?_)
    replace b1 := b1.pure kd_1
    replace b2 := b2.pure kd_1
    replace b3 := b3.pure kd_1
    replace b4 := b4.pure kd_1
    replace b5 := b5.pure kd_1
    replace b6 := b6.pure kd_1
    replace rG := rG.pure kd_1
    replace rl := rl.pure kd_1
    replace rI := rI.pure kd_1
    replace hw := hw.pure kd_1
    replace hb2 := hb2.pure kd_1
    replace hB1 := hB1.pure kd_1
    apply DQ.step (E' := [(11, _)])
    case ho => rfl
    case hs => exact ⟨rfl, trivial⟩
    case hk => rfl
    case h1 =>
      intro wq_2 kq_2
      refine WL.move rfl rfl (?_)
      refine WL.nil ?_
      exact WX.one ⟨rfl, by exact Chg.refl _ _⟩
    apply DQ.step (E' := [(25, _)])
    case ho => rfl
    case hs => exact ⟨rfl, trivial⟩
    case hk => rfl
    case h1 =>
      intro wq_3 kq_3
      refine WL.not rfl rfl ?_
      refine WL.nil ?_
      exact WX.one ⟨rfl, by exact Chg.refl _ _⟩
    apply DQ.step (E' := [(26, _)])
    case ho => rfl
    case hs => exact ⟨rfl, trivial⟩
    case hk => rfl
    case h1 =>
      intro wq_4 kq_4
      refine WL.move rfl rfl (?_)
      refine WL.nil ?_
      exact WX.one ⟨rfl, by exact Chg.refl _ _⟩
    apply DQ.step (E' := [(10, _), (27, _)])
    case ho => rfl
    case hs => exact ⟨rfl, rfl, trivial⟩
    case hk => rfl
    case h1 =>
      intro wq_5 kq_5
      refine WL.want rfl rfl rfl (WL.move rfl rfl (?_))
      refine WL.nil ?_
      exact WX.one ⟨rfl, by exact Chg.refl _ _⟩
    apply DQ.step (E' := [(28, _), (27, _)])
    case ho => rfl
    case hs => exact ⟨rfl, rfl, trivial⟩
    case hk => rfl
    case h1 =>
      intro wq_6 kq_6
      replace b1 := b1.pure kq_6
      replace b2 := b2.pure kq_6
      replace b3 := b3.pure kq_6
      replace b4 := b4.pure kq_6
      replace b5 := b5.pure kq_6
      replace b6 := b6.pure kq_6
      replace rG := rG.pure kq_6
      replace rl := rl.pure kq_6
      replace rI := rI.pure kq_6
      replace hw := hw.pure kq_6
      replace hb2 := hb2.pure kq_6
      replace hB1 := hB1.pure kq_6
      refine WL.want rfl rfl rfl (?_)
      refine WL.call eg_12 rfl rfl (sum_calls hB1.rsl (by omega)) ?_
      rintro v w5 ⟨rfl, k5⟩
      replace b1 := b1.pure k5
      replace b2 := b2.pure k5
      replace b3 := b3.pure k5
      replace b4 := b4.pure k5
      replace b5 := b5.pure k5
      replace b6 := b6.pure k5
      replace rG := rG.pure k5
      replace rl := rl.pure k5
      replace rI := rI.pure k5
      replace hw := hw.pure k5
      replace hb2 := hb2.pure k5
      replace hB1 := hB1.pure k5
      refine WL.nil ?_
      exact WX.one ⟨rfl, by assumption⟩
    apply DQ.step (E' := [(4, _), (27, _)])
    case ho => rfl
    case hs => exact ⟨rfl, rfl, trivial⟩
    case hk => rfl
    case h1 =>
      intro wq_7 kq_7
      replace b1 := b1.pure kq_7
      replace b2 := b2.pure kq_7
      replace b3 := b3.pure kq_7
      replace b4 := b4.pure kq_7
      replace b5 := b5.pure kq_7
      replace b6 := b6.pure kq_7
      replace rG := rG.pure kq_7
      replace rl := rl.pure kq_7
      replace rI := rI.pure kq_7
      replace hw := hw.pure kq_7
      replace hb2 := hb2.pure kq_7
      replace hB1 := hB1.pure kq_7
      refine WL.want rfl rfl rfl (WL.loadB Tryz.isAgg9 b4 rfl rfl rfl (?_))
      refine WL.nil ?_
      exact WX.one ⟨rfl, by exact Chg.refl _ _⟩
    apply DQ.step (E' := [(29, _), (30, _), (27, _)])
    case ho => rfl
    case hs => exact ⟨rfl, rfl, rfl, trivial⟩
    case hk => rfl
    case h1 =>
      intro wq_8 kq_8
      refine WL.want rfl rfl rfl (?_)
      refine WL.sneqF rfl rfl rfl (hfit) ?_
      refine WL.nil ?_
      exact WX.one ⟨rfl, by exact Chg.refl _ _⟩
    apply DQ.step (E' := [(27, _), (31, _)])
    case ho => rfl
    case hs => exact ⟨rfl, rfl, trivial⟩
    case hk => rfl
    case h1 =>
      intro wq_9 kq_9
      refine WL.pickF rfl rfl rfl (?_)
      refine WL.nil ?_
      exact WX.one ⟨rfl, by exact Chg.refl _ _⟩
    refine DQ.done (fun _ => ?_)
    refine DL.done (fun we_10 ke_10 => ?_)
    replace b1 := b1.pure ke_10
    replace b2 := b2.pure ke_10
    replace b3 := b3.pure ke_10
    replace b4 := b4.pure ke_10
    replace b5 := b5.pure ke_10
    replace b6 := b6.pure ke_10
    replace rG := rG.pure ke_10
    replace rl := rl.pure ke_10
    replace rI := rI.pure ke_10
    replace hw := hw.pure ke_10
    replace hb2 := hb2.pure ke_10
    replace hB1 := hB1.pure ke_10
    refine WX.then_normal (WC.cond_false rfl (WC.skip (WX.then_normal (WC.seq (WC.region (WL.move rfl rfl (WL.move rfl rfl (?_))))))))
    refine WL.store Tryz.sizeOf26 b5 rfl rfl rfl rfl ?_
    intro w_11 hs_11 hn_11 k_11
    replace b1 := b1.chg k_11 (by intro h1; have h2 : _ = _ := h1; omega)
    replace b2 := b2.chg k_11 (by intro h1; have h2 : _ = _ := h1; omega)
    replace b3 := b3.chg k_11 (by intro h1; have h2 : _ = _ := h1; omega)
    replace b4 := b4.chg k_11 (by intro h1; have h2 : _ = _ := h1; omega)
    replace b6 := b6.chg k_11 (by intro h1; have h2 : _ = _ := h1; omega)
    replace rG := rG.chg k_11 (by intro b h1 h2 h3; have h4 : b < N := h2; have h5 : b = _ := h3; omega)
    replace rl := rl.chg k_11 (by intro b h1 h2 h3 h4; have h5 : b < N := h2; have h6 : b = _ := h4; omega)
    replace rI := rI.chg k_11 (by intro b h1 h2 h3; have h4 : b < N := h2; have h5 : b = _ := h3; omega)
    replace hw := hw.chg k_11 (by intro x h1 h2; exact .inl h2)
    replace hb2 := hb2.chg k_11 (by intro b h1 h2 h3; have h4 : w.heap.size ≤ b := h2; have h5 : b = _ := h3; omega)
    replace hB1 := hB1.chg k_11 (by intro b h1 h2 h3; have h4 : w.heap.size ≤ b := h2; have h5 : b = _ := h3; omega)
    replace b5 := hn_11
    refine WL.store Tryz.sizeOf39 b6 rfl rfl rfl rfl ?_
    intro w_12 hs_12 hn_12 k_12
    replace b1 := b1.chg k_12 (by intro h1; have h2 : _ = _ := h1; omega)
    replace b2 := b2.chg k_12 (by intro h1; have h2 : _ = _ := h1; omega)
    replace b3 := b3.chg k_12 (by intro h1; have h2 : _ = _ := h1; omega)
    replace b4 := b4.chg k_12 (by intro h1; have h2 : _ = _ := h1; omega)
    replace b5 := b5.chg k_12 (by intro h1; have h2 : _ = _ := h1; omega)
    replace rG := rG.chg k_12 (by intro b h1 h2 h3; have h4 : b < N := h2; have h5 : b = _ := h3; omega)
    replace rl := rl.chg k_12 (by intro b h1 h2 h3 h4; have h5 : b < N := h2; have h6 : b = _ := h4; omega)
    replace rI := rI.chg k_12 (by intro b h1 h2 h3; have h4 : b < N := h2; have h5 : b = _ := h3; omega)
    replace hw := hw.chg k_12 (by intro x h1 h2; exact .inr h2)
    replace hb2 := hb2.chg k_12 (by intro b h1 h2 h3; have h4 : w.heap.size ≤ b := h2; have h5 : b = _ := h3; omega)
    replace hB1 := hB1.chg k_12 (by intro b h1 h2 h3; have h4 : w.heap.size ≤ b := h2; have h5 : b = _ := h3; omega)
    replace b6 := hn_12
    refine WL.nil (WX.then_normal (WC.seq (WC.region (WL.assign rfl rfl (WL.nil (WX.then_normal (WC.ret (?_))))))))
    refine WX.ret1 (.inl rfl) Tryz.results49 rfl ?_
    have hff : fitB G l size sum set = true := by rw [hfb, decide_eq_true hfit]
    refine ⟨_, rfl, by rw [hff], ⟨b1, b2, b3, b4, ⟨_, _, _, b5⟩, ⟨_, _, _, b6⟩, rG, rl, rI, ne⟩, fun _ => ⟨hBs, a4, c4, ab, cb, b5, hB1, b6, hb2⟩, hw⟩
  ·
    refine WL.move rfl rfl (WL.extract rfl rfl rfl (WL.extract rfl rfl rfl (WL.assign rfl rfl (WL.assign rfl rfl (WL.nil (WX.then_normal (WC.seq (?_))))))))
    refine WC.seq (?_)
    refine WC.draw (Nob) [0, 1, 2, 3, 4, 5, 6, 7] [] mixed rfl rfl (fun wd_1 kd_1 zd_1 => ?_)
    replace b1 := b1.pure kd_1
    replace b2 := b2.pure kd_1
    replace b3 := b3.pure kd_1
    replace b4 := b4.pure kd_1
    replace b5 := b5.pure kd_1
    replace b6 := b6.pure kd_1
    replace rG := rG.pure kd_1
    replace rl := rl.pure kd_1
    replace rI := rI.pure kd_1
    replace hw := hw.pure kd_1
    replace hb2 := hb2.pure kd_1
    replace hB1 := hB1.pure kd_1
    apply DQ.step (E' := [(11, _)])
    case ho => rfl
    case hs => exact ⟨rfl, trivial⟩
    case hk => rfl
    case h1 =>
      intro wq_2 kq_2
      refine WL.move rfl rfl (?_)
      refine WL.nil ?_
      exact WX.one ⟨rfl, by exact Chg.refl _ _⟩
    apply DQ.step (E' := [(25, _)])
    case ho => rfl
    case hs => exact ⟨rfl, trivial⟩
    case hk => rfl
    case h1 =>
      intro wq_3 kq_3
      refine WL.not rfl rfl ?_
      refine WL.nil ?_
      exact WX.one ⟨rfl, by exact Chg.refl _ _⟩
    apply DQ.step (E' := [(26, _)])
    case ho => rfl
    case hs => exact ⟨rfl, trivial⟩
    case hk => rfl
    case h1 =>
      intro wq_4 kq_4
      refine WL.move rfl rfl (?_)
      refine WL.nil ?_
      exact WX.one ⟨rfl, by exact Chg.refl _ _⟩
    apply DQ.step (E' := [(10, _), (27, _)])
    case ho => rfl
    case hs => exact ⟨rfl, rfl, trivial⟩
    case hk => rfl
    case h1 =>
      intro wq_5 kq_5
      refine WL.want rfl rfl rfl (WL.move rfl rfl (?_))
      refine WL.nil ?_
      exact WX.one ⟨rfl, by exact Chg.refl _ _⟩
    apply DQ.step (E' := [(28, _), (27, _)])
    case ho => rfl
    case hs => exact ⟨rfl, rfl, trivial⟩
    case hk => rfl
    case h1 =>
      intro wq_6 kq_6
      replace b1 := b1.pure kq_6
      replace b2 := b2.pure kq_6
      replace b3 := b3.pure kq_6
      replace b4 := b4.pure kq_6
      replace b5 := b5.pure kq_6
      replace b6 := b6.pure kq_6
      replace rG := rG.pure kq_6
      replace rl := rl.pure kq_6
      replace rI := rI.pure kq_6
      replace hw := hw.pure kq_6
      replace hb2 := hb2.pure kq_6
      replace hB1 := hB1.pure kq_6
      refine WL.want rfl rfl rfl (?_)
      refine WL.call eg_12 rfl rfl (sum_calls hB1.rsl (by omega)) ?_
      rintro v w5 ⟨rfl, k5⟩
      replace b1 := b1.pure k5
      replace b2 := b2.pure k5
      replace b3 := b3.pure k5
      replace b4 := b4.pure k5
      replace b5 := b5.pure k5
      replace b6 := b6.pure k5
      replace rG := rG.pure k5
      replace rl := rl.pure k5
      replace rI := rI.pure k5
      replace hw := hw.pure k5
      replace hb2 := hb2.pure k5
      replace hB1 := hB1.pure k5
      refine WL.nil ?_
      exact WX.one ⟨rfl, by assumption⟩
    apply DQ.step (E' := [(4, _), (27, _)])
    case ho => rfl
    case hs => exact ⟨rfl, rfl, trivial⟩
    case hk => rfl
    case h1 =>
      intro wq_7 kq_7
      replace b1 := b1.pure kq_7
      replace b2 := b2.pure kq_7
      replace b3 := b3.pure kq_7
      replace b4 := b4.pure kq_7
      replace b5 := b5.pure kq_7
      replace b6 := b6.pure kq_7
      replace rG := rG.pure kq_7
      replace rl := rl.pure kq_7
      replace rI := rI.pure kq_7
      replace hw := hw.pure kq_7
      replace hb2 := hb2.pure kq_7
      replace hB1 := hB1.pure kq_7
      refine WL.want rfl rfl rfl (WL.loadB Tryz.isAgg9 b4 rfl rfl rfl (?_))
      refine WL.nil ?_
      exact WX.one ⟨rfl, by exact Chg.refl _ _⟩
    apply DQ.step (E' := [(29, _), (30, _), (27, _)])
    case ho => rfl
    case hs => exact ⟨rfl, rfl, rfl, trivial⟩
    case hk => rfl
    case h1 =>
      intro wq_8 kq_8
      refine WL.want rfl rfl rfl (?_)
      refine WL.sneqT rfl rfl rfl (hfit) ?_
      refine WL.nil ?_
      exact WX.one ⟨rfl, by exact Chg.refl _ _⟩
    apply DQ.step (E' := [(27, _), (31, _)])
    case ho => rfl
    case hs => exact ⟨rfl, rfl, trivial⟩
    case hk => rfl
    case h1 =>
      intro wq_9 kq_9
      refine WL.pickF rfl rfl rfl (?_)
      refine WL.nil ?_
      exact WX.one ⟨rfl, by exact Chg.refl _ _⟩
    refine DQ.done (fun _ => ?_)
    refine DL.done (fun we_10 ke_10 => ?_)
    replace b1 := b1.pure ke_10
    replace b2 := b2.pure ke_10
    replace b3 := b3.pure ke_10
    replace b4 := b4.pure ke_10
    replace b5 := b5.pure ke_10
    replace b6 := b6.pure ke_10
    replace rG := rG.pure ke_10
    replace rl := rl.pure ke_10
    replace rI := rI.pure ke_10
    replace hw := hw.pure ke_10
    replace hb2 := hb2.pure ke_10
    replace hB1 := hB1.pure ke_10
    refine WX.then_normal (WC.cond_true rfl (WC.seq (WC.region (WL.assign rfl rfl (WL.nil (WX.then_normal (WC.ret (?_))))))))
    refine WX.then_ret (?_)
    refine WX.ret1 (.inl rfl) Tryz.results49 rfl ?_
    have hff : fitB G l size sum set = false := by rw [hfb, decide_eq_false hfit]
    exact ⟨_, rfl, by rw [hff], ⟨b1, b2, b3, b4, ⟨_, _, _, b5⟩, ⟨_, _, _, b6⟩, rG, rl, rI, ne⟩, (fun h => by rw [hff] at h; cases h), hw⟩
end Go.Proofs.YtggecdldnpildaaGreat
namespace Go.Proofs.YtggecdldnpildaaGreat
open Go.RowKit Go.HL
set_option maxRecDepth 100000

/-! sets of drives are tried -/
theorem Got.up {N2 N3 g5 g6 sz : Nat} {w : World} {B : List UInt8} {bad : List Int} (h : Got N3 w g5 g6 sz B bad) (hn : N2 ≤ N3) : Got N2 w g5 g6 sz B bad := by
  obtain ⟨hl, fa, fc, ba, bc, h1, h2, h3, h4⟩ := h
  exact ⟨hl, fa, fc, ba, bc, h1, h2.mono (fun x hx => Nat.le_trans hn hx), h3, h4.mono (fun x hx => Nat.le_trans hn hx)⟩
section
variable {N g1 g2 g3 g4 g5 g6 gc lc size : Nat} {w w' : World} {ga la : Option Addr} {G : List Int} {l : List Stp} {sum : ByteArray} {M : Nat → Prop}
theorem FE.l6 (h : FE N w g1 g2 g3 g4 g5 g6 ga gc G la lc l size sum) : g6 < w.heap.size := by
  obtain ⟨y1, y2, y3, h6⟩ := h.b6
  exact h6.lt
theorem FE.hi (h : FE N w g1 g2 g3 g4 g5 g6 ga gc G la lc l size sum) (k : Chg M w w') (hd : ∀ b, b ≤ g6 → M b → False) : FE N w' g1 g2 g3 g4 g5 g6 ga gc G la lc l size sum := by
  obtain ⟨b1, b2, b3, b4, ⟨x1, x2, x3, b5⟩, ⟨y1, y2, y3, b6⟩, rG, rl, rI, ne⟩ := h
  exact ⟨b1.chg k (hd _ (by omega)), b2.chg k (hd _ (by omega)), b3.chg k (hd _ (by omega)), b4.chg k (hd _ (by omega)), ⟨_, _, _, b5.chg k (hd _ (by omega))⟩, ⟨_, _, _, b6.chg k (hd _ (by omega))⟩, rG.chg k (fun b _ h1 h2 => hd b (by have h3 : b < N := h1; omega) h2), rl.chg k (fun b _ h1 _ h2 => hd b (by have h3 : b < N := h1; omega) h2), rI.chg k (fun b _ h1 h2 => hd b (by have h3 : b < N := h1; omega) h2), ne⟩
end
noncomputable abbrev bytB (G : List Int) (l : List Stp) (size : Nat) (set : List Int) : List UInt8 := (datA (l.map Stp.abs) (srt (G ++ set))).take size
def GotF (N2 : Nat) (w : World) (g5 g6 : Nat) (G : List Int) (l : List Stp) (size : Nat) (cs : Option (List Int)) : Prop := ∀ out, cs = some out → Got N2 w g5 g6 size (bytB G l size out) (srt (G ++ out))
theorem GotF.pure {N2 g5 g6 size : Nat} {w w' : World} {G : List Int} {l : List Stp} {cs : Option (List Int)} (h : GotF N2 w g5 g6 G l size cs) (k : Chg Nob w w') : GotF N2 w' g5 g6 G l size cs := fun out ho => (h out ho).pure k
set_option maxHeartbeats 8000000 in
theorem try_calls {N g1 g2 g3 g4 g5 g6 gc lc size : Nat} {ga la : Option Addr} {G : List Int} {l : List Stp} {sum : ByteArray} (hG3 : G.length ≤ 90) (hl8 : l.length ≤ 8) (hsz : 1 ≤ size ∧ size ≤ 128 * kR l) (hk8 : kR l ≤ 100) (hs1 : size ≤ 1024) :
    ∀ (n : Nat) {w : World} {ra sa : Option Addr} {rc sc : Nat} {rest set : List Int}, FE N w g1 g2 g3 g4 g5 g6 ga gc G la lc l size sum → RSl (· < N) w ei ra rc rest → RSl (fun x => x ≠ g5 ∧ x ≠ g6) w ei sa sc set → rest.length ≤ 100 → set.length + n ≤ 90 →
      (∀ out : List Int, out.length = set.length + n → ∀ s ∈ l, OkCol s.abs.1 s.abs.2 (srt (G ++ out))) →
      Calls Tryz.prog 53 [.slice ra rest.length rc, vi (n : Nat), .slice sa set.length sc, fnFit g1 g2 g3 g4 g5 g6].toArray w (Ret fun v w' => v = .bool ((combos rest n set).find? (fitB G l size sum)).isSome ∧ FE N w' g1 g2 g3 g4 g5 g6 ga gc G la lc l size sum ∧ (∀ out, (combos rest n set).find? (fitB G l size sum) = some out → Got w.heap.size w' g5 g6 size (bytB G l size out) (srt (G ++ out))) ∧ Chg (fun x => x = g5 ∨ x = g6) w w') := by
  intro n
  induction n with
  | zero =>
    intro w ra sa rc sc rest set hE hrest hset hrl hsl hok
    have hw := Chg.refl (fun x => x = g5 ∨ x = g6) w
    refine Calls.of_WC Tryz.func53 rfl Tryz.ntmps53 (by simp) ?_
    refine WC.seq (WC.region (WL.assign rfl rfl (WL.nil (WX.then_normal (WC.seq (WC.seq (WC.region (?_))))))))
    refine WL.move rfl rfl (?_)
    refine WL.eqlT rfl rfl rfl (by rfl) ?_
    refine WL.nil (WX.then_normal (WC.cond_true rfl (WC.seq (WC.region (WL.move rfl rfl (WL.move rfl rfl (?_)))))))
    refine WL.callv eg_49 rfl rfl rfl (fits_calls hE hset (by omega) (by omega) (hok set rfl) hl8 hsz hk8 hs1) ?_
    rintro v w2 ⟨rfl, hE2, hgot, k2⟩
    refine WL.assign rfl rfl (WL.nil (WX.then_normal (WC.ret (WX.then_ret (?_)))))
    refine WX.ret1 (.inl rfl) Tryz.results53 rfl ?_
    rw [combos_zero]
    rcases hf : fitB G l size sum set with _ | _
    ·
      exact ⟨_, rfl, by rw [List.find?_cons_of_neg (by simp [hf])]; rfl, hE2, (fun out ho => by rw [List.find?_cons_of_neg (by simp [hf])] at ho; cases ho), k2⟩
    ·
      exact ⟨_, rfl, by rw [List.find?_cons_of_pos (by simp [hf])]; rfl, hE2, (fun out ho => by rw [List.find?_cons_of_pos (by simp [hf])] at ho; injection ho with ho; subst ho; exact hgot hf), k2⟩
  | succ n ih =>
    intro w ra sa rc sc rest set hE hrest hset hrl hsl hok
    have hw := Chg.refl (fun x => x = g5 ∨ x = g6) w
    have hne := hE.ne
    refine Calls.of_WC Tryz.func53 rfl Tryz.ntmps53 (by simp) ?_
    refine WC.seq (WC.region (WL.assign rfl rfl (WL.nil (WX.then_normal (WC.seq (WC.seq (WC.region (?_))))))))
    refine WL.move rfl rfl (?_)
    refine WL.eqlF rfl rfl rfl (by omega) ?_
    refine WL.nil (WX.then_normal (WC.cond_false rfl (WC.skip (WX.then_normal (WC.seq (WC.seq (WC.region (?_))))))))
    refine WL.move rfl rfl (WL.len Tryz.underlying39 rfl rfl (WL.move rfl rfl (WL.nil (WX.then_normal (WC.block (?_))))))
    refine WC.loop (σ := Nat) (fun i => [(0, .slice ra rest.length rc), (1, vi ((n + 1 : Nat) : Int)), (2, .slice sa set.length sc), (3, fnFit g1 g2 g3 g4 g5 g6), (16, .slice ra rest.length rc), (17, vi rest.length), (18, vi (i : Int))])
      (fun i w' => i ≤ rest.length ∧ FE N w' g1 g2 g3 g4 g5 g6 ga gc G la lc l size sum ∧ RSl (· < N) w' ei ra rc rest ∧ RSl (fun x => x ≠ g5 ∧ x ≠ g6) w' ei sa sc set ∧ (combos rest (n + 1) set).find? (fitB G l size sum) = (combos (rest.drop i) (n + 1) set).find? (fitB G l size sum) ∧ Chg (fun x => x = g5 ∨ x = g6) w w') (fun i => rest.length - i) 0 ⟨rfl, rfl, rfl, rfl, rfl, rfl, rfl, trivial⟩ ⟨Nat.zero_le _, hE, hrest, hset, rfl, hw⟩ ?_
    clear hE hrest hset hw
    rintro i w1 ⟨hi, hE, hrest, hset, hco, hw⟩
    have zw1 := hw.size
    refine WC.seq (WC.region (?_))
    refine WL.lss? rfl rfl rfl (fun h19 => ?_) (fun h19 => ?_)
    ·
      refine WL.nil (WX.then_normal (WC.seq (WC.cond_true rfl (WC.skip (WX.then_normal (WC.seq (WC.block (?_))))))))
      refine WC.seq (WC.region (WL.move rfl rfl (?_)))
      obtain ⟨d, hd⟩ : ∃ d, rest[i]? = some d := ⟨_, List.getElem?_eq_getElem (by omega)⟩
      refine WL.indexT Tryz.underlying39 Tryz.sizeOf3 hrest rfl rfl ⟨hd, rfl⟩ rfl ?_
      intro b_1 o_1 hc_1
      refine WL.load Tryz.isAgg3 rfl (hc_1 0 _ rfl) rfl (WL.assign rfl rfl (WL.assign rfl rfl (WL.nil (WX.then_normal (WC.seq (?_))))))
      have hcut := hrest.cut (i + 1) rest.length ⟨by omega, Nat.le_refl _⟩
      rw [List.take_length] at hcut
      replace hset := hset.lt
      have hz := Chg.refl Nob w1
      refine WC.drawM ((fun x => x = g5 ∨ x = g6)) [0, 1, 2, 3, 4, 5, 6, 8, 11] [7, 9, 10, 12] mixed rfl rfl (fun wd_2 kd_2 zd_2 => ?_)
      replace hE := hE.pure kd_2
      replace hrest := hrest.pure kd_2
      replace hset := hset.pure kd_2
      replace hw := hw.pure kd_2
      replace hcut := hcut.pure kd_2
      replace hz := hz.pure kd_2
      apply DQT.step (E' := [(0, _)])
      case ho => rfl
      case hs => exact ⟨rfl, trivial⟩
      case hk => rfl
      case h1 =>
        intro wq_4 kq_4
        refine WL.move rfl rfl (?_)
        refine WL.nil ?_
        exact WX.one ⟨rfl, by exact Chg.refl _ _⟩
      apply DQT.step (E' := [(9, _)])
      case ho => rfl
      case hs => exact ⟨rfl, trivial⟩
      case hk => rfl
      case h1 =>
        intro wq_5 kq_5
        refine WL.move rfl rfl (?_)
        refine WL.nil ?_
        exact WX.one ⟨rfl, by exact Chg.refl _ _⟩
      apply DQT.step (E' := [(24, _)])
      case ho => rfl
      case hs => exact ⟨rfl, trivial⟩
      case hk => rfl
      case h1 =>
        intro wq_6 kq_6
        refine WL.add64 rfl rfl (by constructor <;> omega) rfl ?_
        refine WL.nil ?_
        exact WX.one ⟨rfl, by exact Chg.refl _ _⟩
      apply DQT.step (E' := [(23, _), (25, _)])
      case ho => rfl
      case hs => exact ⟨rfl, rfl, trivial⟩
      case hk => rfl
      case h1 =>
        intro wq_7 kq_7
        replace hrest := hrest.chg kq_7 (by intro b h1 h2 h3; have h4 : b < N := h2; rcases h3 with h5 | h5 <;> omega)
        refine WL.sliceC (l := i + 1) (h := rest.length) (j := .i64) Tryz.underlying39 Tryz.sizeOf3 hrest rfl (.inl rfl) (.inr ⟨rfl, rfl⟩) (by constructor <;> omega) rfl ?_
        rw [List.take_length]
        refine WL.nil ?_
        exact WX.one ⟨rfl, by exact Chg.refl _ _⟩
      apply DQT.step (E' := [(1, _)])
      case ho => rfl
      case hs => exact ⟨rfl, trivial⟩
      case hk => rfl
      case h1 =>
        intro wq_8 kq_8
        refine WL.move rfl rfl (?_)
        refine WL.nil ?_
        exact WX.one ⟨rfl, by exact Chg.refl _ _⟩
      apply DQT.step (E' := [(27, _)])
      case ho => rfl
      case hs => exact ⟨rfl, trivial⟩
      case hk => rfl
      case h1 =>
        intro wq_9 kq_9
        refine WL.sub64 rfl rfl (by constructor <;> omega) rfl ?_
        rw [show ((n + 1 : Nat) : Int) - 1 = (n : Int) from by omega]
        refine WL.nil ?_
        exact WX.one ⟨rfl, by exact Chg.refl _ _⟩
      apply DQT.step (E' := [(2, _)])
      case ho => rfl
      case hs => exact ⟨rfl, trivial⟩
      case hk => rfl
      case h1 =>
        intro wq_10 kq_10
        refine WL.move rfl rfl (?_)
        refine WL.nil ?_
        exact WX.one ⟨rfl, by exact Chg.refl _ _⟩
      apply DQT.step (E' := [(10, _)])
      case ho => rfl
      case hs => exact ⟨rfl, trivial⟩
      case hk => rfl
      case h1 =>
        intro wq_11 kq_11
        refine WL.move rfl rfl (?_)
        refine WL.nil ?_
        exact WX.one ⟨rfl, by exact Chg.refl _ _⟩
      apply DQT.step (E' := [(3, _)])
      case ho => rfl
      case hs => exact ⟨rfl, trivial⟩
      case hk => rfl
      case h1 =>
        intro wq_12 kq_12
        refine WL.move rfl rfl (?_)
        refine WL.nil ?_
        exact WX.one ⟨rfl, by exact Chg.refl _ _⟩
      refine DQT.done (fun hd_3 => ?_)
      refine ⟨?_, ?_, trivial, trivial, trivial⟩
      refine DT.step [(29, _)] rfl ⟨rfl, trivial⟩ rfl (fun wq_13 kq_13 => ?_)
      replace hE := hE.pure kq_13
      replace hrest := hrest.pure kq_13
      replace hset := hset.pure kq_13
      replace hw := hw.pure kq_13
      replace hcut := hcut.pure kq_13
      replace hz := hz.pure kq_13
      replace hd_3 := hd_3.pure kq_13
      have l6c := hE.l6
      have z30 := hz.size
      refine WL.call eg_75 rfl rfl (zclone_calls hset (by omega)) ?_
      rintro v w30 ⟨⟨a30, c30, rfl, h30'⟩, k30⟩
      replace hE := hE.pure k30
      replace hrest := hrest.pure k30
      replace hset := hset.pure k30
      replace hw := hw.pure k30
      replace hcut := hcut.pure k30
      replace hz := hz.pure k30
      replace hd_3 := hd_3.pure k30
      have h30 : Row (fun x => g6 < x ∧ w1.heap.size ≤ x) w30 3 ei a30 c30 set := h30'.mono (fun x hx => by have h9 : _ ≤ x := hx; exact ⟨by omega, by omega⟩)
      clear h30'
      refine WL.nil (WX.one ⟨hd_3, ?_⟩)
      refine ⟨?_, trivial, trivial, trivial⟩
      refine DT.step [(31, _)] rfl ⟨rfl, trivial⟩ rfl (fun wq_14 kq_14 => ?_)
      replace hE := hE.pure kq_14
      replace hrest := hrest.pure kq_14
      replace hset := hset.pure kq_14
      replace hw := hw.pure kq_14
      replace hcut := hcut.pure kq_14
      replace hz := hz.pure kq_14
      replace hd_3 := hd_3.pure kq_14
      replace h30 := h30.pure kq_14
      refine WL.build (e := ei) [d] Tryz.underlying39 Tryz.sizeOf3 Tryz.zeroValue3 rfl rfl rfl (by simp [Value.cells] <;> rfl) (by decide) rfl ?_
      intro a_q32 w_q32 q32 l_q32 z_q32 k_q32
      replace hE := hE.pure k_q32
      replace hrest := hrest.pure k_q32
      replace hset := hset.pure k_q32
      replace hw := hw.pure k_q32
      replace hcut := hcut.pure k_q32
      replace hz := hz.pure k_q32
      replace hd_3 := hd_3.pure k_q32
      replace h30 := h30.pure k_q32
      refine WL.nil (WX.one ⟨hd_3, ?_⟩)
      refine ⟨?_, trivial, trivial⟩
      refine DT.step [(30, _), (32, _)] rfl ⟨rfl, rfl, trivial⟩ rfl (fun wq_15 kq_15 => ?_)
      replace hE := hE.pure kq_15
      replace hrest := hrest.pure kq_15
      replace hset := hset.pure kq_15
      replace hw := hw.pure kq_15
      replace hcut := hcut.pure kq_15
      replace hz := hz.pure kq_15
      replace hd_3 := hd_3.pure kq_15
      replace h30 := h30.pure kq_15
      replace q32 := q32.pure kq_15
      have l6c := hE.l6
      have z33 := hz.size
      refine WL.append (e := ei) info_3 rfl Tryz.underlying39 rfl rfl h30 (q32.rsl.src Tryz.underlying39) (by constructor <;> (simp only [List.length_cons, List.length_nil]; omega)) (fun b hb => by have h9 : _ ≤ b := hb; exact ⟨by omega, by omega⟩) rfl ?_
      intro a33 c33 w33 h33 g33 n33
      replace hE := hE.hi g33.chg (fun b h1 h2 => by have := h2.2.1; omega)
      replace hrest := hrest.chg g33.chg (fun b _ h1 h2 => by have := h2.2.1; have h3 : b < N := h1; omega)
      replace hcut := hcut.chg g33.chg (fun b _ h1 h2 => by have := h2.2.1; have h3 : b < N := h1; omega)
      replace hset := hset.chg g33.chg (fun b _ h1 h2 => by have := h2.2.2; have := h1.2; omega)
      replace hw := hw.chg g33.chg (fun b h1 h2 => by have := h2.2.2; omega)
      replace hd_3 := hd_3.chg g33.chg (by intro x h1 h2; exfalso; have h3 := h2.2.2; omega)
      refine WL.nil (WX.one ⟨hd_3, ?_⟩)
      refine ⟨?_, trivial⟩
      refine DT.step [(26, _), (28, _), (33, _), (34, _)] rfl ⟨rfl, rfl, rfl, rfl, trivial⟩ rfl (fun wq_16 kq_16 => ?_)
      replace hE := hE.pure kq_16
      replace hrest := hrest.pure kq_16
      replace hset := hset.pure kq_16
      replace hw := hw.pure kq_16
      replace hcut := hcut.pure kq_16
      replace hd_3 := hd_3.pure kq_16
      replace h33 := h33.pure kq_16
      have zb := hw.size
      refine WL.call eg_53 rfl rfl (ih hE hcut (h33.rsl.mono (S' := fun x => x ≠ g5 ∧ x ≠ g6) (fun x hx => ⟨by omega, by omega⟩)) (by rw [List.length_drop]; omega) (by rw [List.length_append, List.length_singleton]; omega) (fun out ho => hok out (by rw [ho, List.length_append, List.length_singleton]; omega))) ?_
      rintro v w35 ⟨rfl, hE35, hgot, k35⟩
      obtain ⟨bo, hbo⟩ : ∃ bo, bo = ((combos (rest.drop (i + 1)) n (set ++ [d])).find? (fitB G l size sum)).isSome := ⟨_, rfl⟩
      rw [← hbo]
      have zw35 := hw.size
      replace hrest := hrest.chg k35 (fun b _ h1 h2 => by have h3 : b < N := h1; rcases h2 with h4 | h4 <;> omega)
      replace hset := (hset.chg k35 (fun b _ h1 h2 => h2.elim h1.1.1 h1.1.2)).mono (S' := fun x => x ≠ g5 ∧ x ≠ g6) (fun x hx => hx.1)
      replace hw := hw.chg k35 (fun b h1 h2 => h2)
      replace hd_3 := hd_3.chg k35 (by intro x h1 h2; exact h2)
      have hgf : GotF _ _ g5 g6 G l size ((combos (rest.drop (i + 1)) n (set ++ [d])).find? (fitB G l size sum)) := hgot
      clear hgot
      refine WL.nil (WX.one ⟨hd_3, ?_⟩)
      refine DT.done (fun we_17 ke_17 => ?_) _
      replace hrest := hrest.pure ke_17
      replace hset := hset.pure ke_17
      replace hw := hw.pure ke_17
      replace hd_3 := hd_3.pure ke_17
      replace hE35 := hE35.pure ke_17
      replace hgf := hgf.pure ke_17
      rotate_left
      refine DT.step [(31, _)] rfl ⟨rfl, trivial⟩ rfl (fun wq_13 kq_13 => ?_)
      replace hE := hE.pure kq_13
      replace hrest := hrest.pure kq_13
      replace hset := hset.pure kq_13
      replace hw := hw.pure kq_13
      replace hcut := hcut.pure kq_13
      replace hz := hz.pure kq_13
      replace hd_3 := hd_3.pure kq_13
      refine WL.build (e := ei) [d] Tryz.underlying39 Tryz.sizeOf3 Tryz.zeroValue3 rfl rfl rfl (by simp [Value.cells] <;> rfl) (by decide) rfl ?_
      intro a_q32 w_q32 q32 l_q32 z_q32 k_q32
      replace hE := hE.pure k_q32
      replace hrest := hrest.pure k_q32
      replace hset := hset.pure k_q32
      replace hw := hw.pure k_q32
      replace hcut := hcut.pure k_q32
      replace hz := hz.pure k_q32
      replace hd_3 := hd_3.pure k_q32
      refine WL.nil (WX.one ⟨hd_3, ?_⟩)
      refine ⟨?_, trivial, trivial, trivial⟩
      refine DT.step [(29, _)] rfl ⟨rfl, trivial⟩ rfl (fun wq_14 kq_14 => ?_)
      replace hE := hE.pure kq_14
      replace hrest := hrest.pure kq_14
      replace hset := hset.pure kq_14
      replace hw := hw.pure kq_14
      replace hcut := hcut.pure kq_14
      replace hz := hz.pure kq_14
      replace hd_3 := hd_3.pure kq_14
      replace q32 := q32.pure kq_14
      have l6c := hE.l6
      have z30 := hz.size
      refine WL.call eg_75 rfl rfl (zclone_calls hset (by omega)) ?_
      rintro v w30 ⟨⟨a30, c30, rfl, h30'⟩, k30⟩
      replace hE := hE.pure k30
      replace hrest := hrest.pure k30
      replace hset := hset.pure k30
      replace hw := hw.pure k30
      replace hcut := hcut.pure k30
      replace hz := hz.pure k30
      replace hd_3 := hd_3.pure k30
      replace q32 := q32.pure k30
      have h30 : Row (fun x => g6 < x ∧ w1.heap.size ≤ x) w30 3 ei a30 c30 set := h30'.mono (fun x hx => by have h9 : _ ≤ x := hx; exact ⟨by omega, by omega⟩)
      clear h30'
      refine WL.nil (WX.one ⟨hd_3, ?_⟩)
      refine ⟨?_, trivial, trivial⟩
      refine DT.step [(30, _), (32, _)] rfl ⟨rfl, rfl, trivial⟩ rfl (fun wq_15 kq_15 => ?_)
      replace hE := hE.pure kq_15
      replace hrest := hrest.pure kq_15
      replace hset := hset.pure kq_15
      replace hw := hw.pure kq_15
      replace hcut := hcut.pure kq_15
      replace hz := hz.pure kq_15
      replace hd_3 := hd_3.pure kq_15
      replace q32 := q32.pure kq_15
      replace h30 := h30.pure kq_15
      have l6c := hE.l6
      have z33 := hz.size
      refine WL.append (e := ei) info_3 rfl Tryz.underlying39 rfl rfl h30 (q32.rsl.src Tryz.underlying39) (by constructor <;> (simp only [List.length_cons, List.length_nil]; omega)) (fun b hb => by have h9 : _ ≤ b := hb; exact ⟨by omega, by omega⟩) rfl ?_
      intro a33 c33 w33 h33 g33 n33
      replace hE := hE.hi g33.chg (fun b h1 h2 => by have := h2.2.1; omega)
      replace hrest := hrest.chg g33.chg (fun b _ h1 h2 => by have := h2.2.1; have h3 : b < N := h1; omega)
      replace hcut := hcut.chg g33.chg (fun b _ h1 h2 => by have := h2.2.1; have h3 : b < N := h1; omega)
      replace hset := hset.chg g33.chg (fun b _ h1 h2 => by have := h2.2.2; have := h1.2; omega)
      replace hw := hw.chg g33.chg (fun b h1 h2 => by have := h2.2.2; omega)
      replace hd_3 := hd_3.chg g33.chg (by intro x h1 h2; exfalso; have h3 := h2.2.2; omega)
      refine WL.nil (WX.one ⟨hd_3, ?_⟩)
      refine ⟨?_, trivial⟩
      refine DT.step [(26, _), (28, _), (33, _), (34, _)] rfl ⟨rfl, rfl, rfl, rfl, trivial⟩ rfl (fun wq_16 kq_16 => ?_)
      replace hE := hE.pure kq_16
      replace hrest := hrest.pure kq_16
      replace hset := hset.pure kq_16
      replace hw := hw.pure kq_16
      replace hcut := hcut.pure kq_16
      replace hd_3 := hd_3.pure kq_16
      replace h33 := h33.pure kq_16
      have zb := hw.size
      refine WL.call eg_53 rfl rfl (ih hE hcut (h33.rsl.mono (S' := fun x => x ≠ g5 ∧ x ≠ g6) (fun x hx => ⟨by omega, by omega⟩)) (by rw [List.length_drop]; omega) (by rw [List.length_append, List.length_singleton]; omega) (fun out ho => hok out (by rw [ho, List.length_append, List.length_singleton]; omega))) ?_
      rintro v w35 ⟨rfl, hE35, hgot, k35⟩
      obtain ⟨bo, hbo⟩ : ∃ bo, bo = ((combos (rest.drop (i + 1)) n (set ++ [d])).find? (fitB G l size sum)).isSome := ⟨_, rfl⟩
      rw [← hbo]
      have zw35 := hw.size
      replace hrest := hrest.chg k35 (fun b _ h1 h2 => by have h3 : b < N := h1; rcases h2 with h4 | h4 <;> omega)
      replace hset := (hset.chg k35 (fun b _ h1 h2 => h2.elim h1.1.1 h1.1.2)).mono (S' := fun x => x ≠ g5 ∧ x ≠ g6) (fun x hx => hx.1)
      replace hw := hw.chg k35 (fun b h1 h2 => h2)
      replace hd_3 := hd_3.chg k35 (by intro x h1 h2; exact h2)
      have hgf : GotF _ _ g5 g6 G l size ((combos (rest.drop (i + 1)) n (set ++ [d])).find? (fitB G l size sum)) := hgot
      clear hgot
      refine WL.nil (WX.one ⟨hd_3, ?_⟩)
      refine DT.done (fun we_17 ke_17 => ?_) _
      replace hrest := hrest.pure ke_17
      replace hset := hset.pure ke_17
      replace hw := hw.pure ke_17
      replace hd_3 := hd_3.pure ke_17
      replace hE35 := hE35.pure ke_17
      replace hgf := hgf.pure ke_17
      rotate_left
      all_goals
        refine WX.then_normal (?_)
        first | refine WC.cond_dec rfl (fun hc35 => ?_) (fun hc35 => ?_) | refine WC.cond_split rfl (fun hc35 => ?_) (fun hc35 => ?_)
        ·
          refine WC.seq (WC.region (WL.assign rfl rfl (WL.nil (WX.then_normal (WC.ret (WX.block_ret (WX.then_ret (?_))))))))
          refine WX.then_ret (WX.block_ret (WX.then_ret (?_)))
          refine WX.ret1 (.inl rfl) Tryz.results53 rfl ?_
          have hh : bo = true := hc35
          obtain ⟨out, hout⟩ : ∃ out, (combos (rest.drop (i + 1)) n (set ++ [d])).find? (fitB G l size sum) = some out := Option.isSome_iff_exists.1 (by rw [← hbo, hh])
          have hhit := combos_hit hd hout
          rw [hco, hhit]
          exact ⟨_, rfl, rfl, hE35, fun o ho => by injection ho with ho; subst ho; exact (hgf _ hout).up zb, hw⟩
        ·
          refine WC.skip (WX.block_normal (WX.then_normal (WC.region (WL.add64 rfl rfl (by omega) rfl (WL.move rfl rfl (WL.nil (?_)))))))
          have hnone : (combos (rest.drop (i + 1)) n (set ++ [d])).find? (fitB G l size sum) = none := by
            rw [hc35] at hbo
            exact Option.not_isSome_iff_eq_none.1 (by rw [← hbo]; decide)
          exact WX.loop_next (i + 1) ⟨rfl, rfl, rfl, rfl, rfl, rfl, rfl, trivial⟩ ⟨by omega, hE35, hrest, hset, by rw [hco]; exact combos_drop hd hnone, hw⟩ (by omega)
    ·
      refine WL.nil (WX.then_normal (WC.seq (WC.cond_false rfl (WC.exit (WX.then_exit (WX.then_exit (WX.block_here (?_))))))))
      refine WX.then_normal (WC.seq (WC.region (WL.assign rfl rfl (WL.nil (WX.then_normal (WC.ret (?_)))))))
      refine WX.ret1 (.inl rfl) Tryz.results53 rfl ?_
      have hil : i = rest.length := by omega
      subst hil
      rw [List.drop_length, combos_nil] at hco
      rw [hco]
      exact ⟨_, rfl, rfl, hE, (fun o ho => by cases ho), hw⟩
end Go.Proofs.YtggecdldnpildaaGreat
namespace Go.Proofs.YtggecdldnpildaaGreat
open Go.RowKit Go.HL
set_option maxRecDepth 100000

/-! what a block's cells must hold -/
set_option maxHeartbeats 4000000 in
theorem layout_calls {S : Nat → Prop} {w : World} {a R n f : Nat} (hB : AB w a R n f) (hn : 5 ≤ n ∧ n ≤ 16) {ao : Option Addr} {c : Nat} {b : List UInt8} (hb : RSl S w eb ao c b) (hl : 1 ≤ b.length ∧ b.length ≤ 1024) :
    Calls Tryz.prog 41 [ptr a, .slice ao b.length c].toArray w (Ret fun v w' => (∃ a2 c2 rs, v = .tuple #[.slice a2 rs.length c2, vi 0] ∧ KR (w.heap.size ≤ ·) w' 26 5 a2 c2 rs ∧ rs.map Rw.xs = layA n b) ∧ Chg Nob w w') := by
  have hw := Chg.refl Nob w
  have la := hB.lt
  replace hb := hb.old
  have h8 := secsA_le hl.2
  have hsu := secsA_up (size := b.length)
  have hpl : (padA b).length = b.length + 128 := by simp [padA]
  refine Calls.of_WC Tryz.func41 rfl Tryz.ntmps41 (by simp) ?_
  refine WC.seq (WC.region (WL.assign rfl rfl (WL.assign rfl rfl (WL.nil (WX.then_normal (WC.seq (WC.region (?_))))))))
  refine WL.move rfl rfl (?_)
  refine WL.call eg_63 rfl rfl (jclone_calls hb hl.1 (by omega)) ?_
  rintro v w1 ⟨⟨g, c1, rfl, hq, hg1⟩, k1⟩
  have zs_k1 := k1.size
  replace hB := hB.pure k1
  replace hb := hb.pure k1
  replace hw := hw.pure k1
  have zw1 := hw.size
  refine WL.appendZs (m := 128) (S := fun x => w.heap.size ≤ x) info_5 Tryz.underlying26 Tryz.underlying3 rfl rfl (hq.mono (fun x hx => by have h2 : x = g := hx; omega)) ⟨by decide, by omega, by omega⟩ (fun x hx => by omega) rfl ?_
  intro ap cp w2 hP gP
  have kP : Chg Nob w w2 := hw.trans gP.chg (fun x hx hm => by obtain ⟨⟨a9, e9, rfl⟩, _⟩ := hm; injection e9 with e9; subst e9; exfalso; omega)
  replace hB := hB.chg gP.chg (fun hm => by have := hm.2; omega)
  replace hw := kP
  have zw2 := kP.size
  rw [show b ++ List.replicate 128 (0 : UInt8) = padA b from rfl] at hP ⊢
  replace hP := hP.rsk
  refine WL.assign rfl rfl (WL.nil (WX.then_normal (WC.seq (WC.region (WL.assign rfl rfl (WL.nil (WX.then_normal (?_))))))))
  refine WC.seq (WC.seq (WC.region (WL.move rfl rfl (WL.move rfl rfl (WL.len Tryz.underlying26 rfl rfl (?_))))))
  have h0n : (0 : Int) = ((0 : Nat) : Int) := rfl
  refine WL.call eg_39 rfl rfl (rows_calls hB hn 0 b.length (by omega) hl.2) ?_
  rintro v w3 ⟨⟨ar, cr, rfl, hr⟩, k3⟩
  have zs_k3 := k3.size
  replace hB := hB.pure k3
  replace hw := hw.pure k3
  replace hP := hP.pure k3
  refine WL.len Tryz.underlying82 rfl rfl (WL.move rfl rfl (WL.nil (WX.then_normal (WC.block (?_)))))
  obtain ⟨rows, hrows⟩ : ∃ rows, rows = rowsA n 0 (secsA b.length) := ⟨_, rfl⟩
  have hrl : rows.length ≤ 8 := by rw [hrows]; exact Nat.le_trans (rowsA_len (by omega) _ _) h8
  have hdat : datR rows = secsA b.length := by rw [hrows]; exact datR_rows (by omega) _ _
  have hlay : layR rows (padA b) = layA n b := by rw [hrows]; rfl
  rw [← hrows] at hr ⊢
  have zw0 := hw.size
  refine WC.loop (σ := Nat × ((Option Addr × Nat) × List Rw) × (Option Addr × Nat)) (fun q => [(0, ptr a), (6, .slice q.2.2.1 ((padA b).drop (128 * datR (rows.take q.1))).length q.2.2.2), (7, .slice q.2.1.1.1 q.2.1.2.length q.2.1.1.2), (19, .slice ar rows.length cr), (20, vi rows.length), (21, vi (q.1 : Int))])
    (fun q w' => q.1 ≤ rows.length ∧ RSK (w.heap.size ≤ ·) w' 5 eb q.2.2.1 q.2.2.2 ((padA b).drop (128 * datR (rows.take q.1))) ∧ KR (w.heap.size ≤ ·) w' 26 5 q.2.1.1.1 q.2.1.1.2 q.2.1.2 ∧ q.2.1.2.map Rw.xs = layR (rows.take q.1) (padA b) ∧ RSK (w.heap.size ≤ ·) w' 85 er2 ar cr rows ∧ Chg Nob w w') (fun q => rows.length - q.1) (0, ((none, 0), []), (ap, cp)) ⟨rfl, rfl, rfl, rfl, rfl, rfl, trivial⟩
    ⟨Nat.zero_le _, hP, KR.nil _ _ _ _, rfl, RSK.mono hr.rsk (fun x _ hx => by have h1 : _ ≤ x := hx; show w.heap.size ≤ x; omega), hw⟩ ?_
  clear hP hr hw hB
  rintro ⟨i, ⟨⟨ag, cg⟩, rs⟩, ap, cp⟩ w4 ⟨hi, hP, hG, hrs, hr, hw⟩
  simp only at hi hP hG hrs
  dsimp only
  have zw4 := hw.size
  replace hP := hP.low
  replace hG := hG.low
  replace hr := hr.low
  have hrslen : rs.length ≤ 160 := by
    have h1 : rs.length = (rs.map Rw.xs).length := by simp
    rw [h1, hrs, layR_len]
    have h2 := sumR_take rows i
    have h3 : sumR rows = costA n (secsA b.length) := by rw [hrows]; rfl
    have h4 := (costA_is hn h8).2
    omega
  refine WC.seq (WC.region (?_))
  refine WL.lss? rfl rfl rfl (fun h22 => ?_) (fun h22 => ?_)
  ·
    refine WL.nil (WX.then_normal (WC.seq (WC.cond_true rfl (WC.skip (WX.then_normal (WC.seq (WC.block (?_))))))))
    refine WC.seq (WC.region (?_))
    obtain ⟨x, hx⟩ : ∃ x, rows[i]? = some x := ⟨_, List.getElem?_eq_getElem (by omega)⟩
    have hxm := rowsA_mem (n := n) (by omega) _ _ _ (hrows ▸ List.mem_of_getElem? hx)
    have htk : datR (rows.take (i + 1)) = datR (rows.take i) + x.2 := by rw [List.take_add_one, hx, Option.toList_some]; simp [datR]
    have hdl : datR (rows.take (i + 1)) ≤ secsA b.length := by
      rw [← hdat]
      have : ∀ (l : List (Nat × Nat)) (j : Nat), datR (l.take j) ≤ datR l := fun l => by
        induction l with
        | nil => intro j; simp
        | cons y l ih =>
          intro j
          cases j with
          | zero => simp [datR]
          | succ j => have := ih j; rw [List.take_succ_cons, datR_cons, datR_cons]; omega
      exact this _ _
    have hr1 := RSK.rsl hr
    refine WL.indexT Tryz.underlying82 Tryz.sizeOf85 hr1 rfl rfl ⟨hx, rfl⟩ rfl ?_
    intro bb oo hcc
    refine WL.loads _ Tryz.isAgg85 Tryz.sizeOf85 rfl hcc rfl rfl (?_)
    refine WL.alloc Tryz.zeroValue85 rfl ?_
    intro g_1 w_1 hge_1 hlt_1 hb_1 k_1
    have zs_k_1 := k_1.size
    replace hP := hP.pure k_1
    replace hG := hG.pure k_1
    replace hr := hr.pure k_1
    replace hw := hw.pure k_1
    refine WL.stores Tryz.sizeOf85 hb_1 rfl rfl (by rfl) (by exact Enc.one _ _) (by exact Nat.le_of_ble_eq_true rfl) rfl ?_
    intro w_2 hs_2 hn_2 k_2
    have zs_k_2 := k_2.size
    replace hP := hP.chg k_2 (by intros; exfalso; (try dsimp only at *); omega)
    replace hG := hG.chg k_2 (by intro b h1 h2 h3; have h4 : _ = _ := h3; (try dsimp only at h2); exfalso; omega)
    replace hr := hr.chg k_2 (by intros; exfalso; (try dsimp only at *); omega)
    replace hw := hw.chg k_2 (by intro x h1 h2; have h3 : _ = _ := h2; exfalso; omega)
    replace hb_1 := hn_2
    refine WL.nil (WX.then_normal (WC.seq (WC.region (WL.assign rfl rfl (WL.nil (WX.then_normal (WC.seq (?_))))))))
    refine WC.seq (WC.region (WL.fieldAddr (fld_85_1) rfl rfl (WL.loadB Tryz.isAgg3 hb_1 rfl rfl rfl (WL.move rfl rfl (WL.nil (WX.then_normal (WC.block (?_))))))))
    obtain ⟨p0, hp0⟩ : ∃ p0, p0 = (padA b).drop (128 * datR (rows.take i)) := ⟨_, rfl⟩
    have hp0l : p0.length = (padA b).length - 128 * datR (rows.take i) := by rw [hp0, List.length_drop]
    have hpx : 128 * x.2 ≤ p0.length := by omega
    have hx2 : x.2 ≤ 8 := by omega
    rw [← hp0] at hP ⊢
    refine WC.loop (σ := Nat × ((Option Addr × Nat) × List Rw) × (Option Addr × Nat)) (fun q => [(0, ptr a), (6, .slice q.2.2.1 (p0.drop (128 * q.1)).length q.2.2.2), (7, .slice ag rs.length cg), (10, .slice q.2.1.1.1 q.2.1.2.length q.2.1.1.2), (19, .slice ar rows.length cr), (20, vi rows.length), (21, vi (i : Int)), (26, vi (x.2 : Nat)), (27, vi (q.1 : Int))])
      (fun q w' => q.1 ≤ x.2 ∧ RSK (fun b => w.heap.size ≤ b ∧ b < w4.heap.size) w' 5 eb q.2.2.1 q.2.2.2 (p0.drop (128 * q.1)) ∧ Row (w4.heap.size ≤ ·) w' 26 erow q.2.1.1.1 q.2.1.1.2 q.2.1.2 ∧ (∀ r ∈ q.2.1.2, RSK (w.heap.size ≤ ·) w' 5 eb r.ao r.cap r.xs) ∧ q.2.1.2.map Rw.xs = chunksA q.1 p0 ∧ KR (fun b => w.heap.size ≤ b ∧ b < w4.heap.size) w' 26 5 ag cg rs ∧ RSK (fun b => w.heap.size ≤ b ∧ b < w4.heap.size) w' 85 er2 ar cr rows ∧ Chg Nob w w' ∧ w4.heap.size ≤ w'.heap.size) (fun q => x.2 - q.1) (0, ((none, 0), []), (ap, cp)) ⟨rfl, rfl, rfl, rfl, rfl, rfl, rfl, rfl, rfl, trivial⟩
      ⟨Nat.zero_le _, hP, Row.nil _ _ _ _, (by intro r hr; simp at hr), rfl, hG, hr, hw, by omega⟩ ?_
    clear hP hG hr hw
    rintro ⟨j, ⟨⟨ad, cd⟩, ds⟩, ap, cp⟩ w5 ⟨hj, hP, hDo, hDi, hds, hG, hr, hw, zw5⟩
    simp only at hj hP hDo hDi hds
    dsimp only
    have hdsl : ds.length = j := by
      have h1 : ds.length = (ds.map Rw.xs).length := by simp
      rw [h1, hds, chunksA_len]
    have zw5' := hw.size
    refine WC.seq (WC.region (?_))
    refine WL.lss? rfl rfl rfl (fun h28 => ?_) (fun h28 => ?_)
    ·
      refine WL.nil (WX.then_normal (WC.seq (WC.cond_true rfl (WC.skip (WX.then_normal (WC.seq (WC.block (?_))))))))
      refine WC.seq (WC.region (WL.move rfl rfl (WL.move rfl rfl (?_))))
      have h27 : (j : Int) < x.2 := by assumption
      have hpj : (p0.drop (128 * j)).length = p0.length - 128 * j := by rw [List.length_drop]
      have hcap := hP.rsl.cap
      have hlen : ((p0.drop (128 * j)).take 128).length = 128 := by rw [List.length_take]; omega
      have hPc : RSK (fun b => w.heap.size ≤ b ∧ b < w4.heap.size) w5 5 eb (cutAt ap 128 0 1) 128 ((p0.drop (128 * j)).take 128) := RSl.top hP (by omega) ⟨by omega, by omega, by omega⟩
      refine WL.sliceM (h := ((p0.drop (128 * j)).take 128).length) (m := 128) Tryz.underlying26 Tryz.sizeOf5 rfl (by show some (vi 128) = some (vi (((p0.drop (128 * j)).take 128).length : Int)); rw [hlen]; rfl) rfl ⟨by omega, by omega⟩ rfl ?_
      refine WL.build (e := erow) [⟨cutAt ap 128 0 1, 128, (p0.drop (128 * j)).take 128⟩] Tryz.underlying87 Tryz.sizeOf26 Tryz.zeroValue26 rfl rfl rfl (by simp [Value.cells] <;> rfl) (by decide) rfl ?_
      intro a_q32 w_q32 q32 l_q32 z_q32 k_q32
      have zs_k_q32 := k_q32.size
      replace hP := hP.pure k_q32
      replace hDo := hDo.pure k_q32
      replace hG := hG.pure k_q32
      replace hr := hr.pure k_q32
      replace hw := hw.pure k_q32
      replace hPc := hPc.pure k_q32
      refine WL.append (e := erow) info_26 rfl Tryz.underlying87 rfl rfl hDo (q32.rsl.src Tryz.underlying87) (by constructor <;> (simp only [List.length_cons, List.length_nil]; omega)) (fun b hb => by have h9 : _ ≤ b := hb; show w4.heap.size ≤ b; omega) rfl ?_
      intro a9 c9 w9 hDo9 g9 n9
      have hDi9 : ∀ r ∈ ds ++ [⟨cutAt ap 128 0 1, 128, (p0.drop (128 * j)).take 128⟩], RSK (w.heap.size ≤ ·) w9 5 eb r.ao r.cap r.xs := fun r hr => by
        rcases List.mem_append.1 hr with h1 | h1
        ·
          exact ((hDi r h1).pure k_q32).grow hDo g9 (by decide)
        ·
          rw [List.mem_singleton] at h1
          subst h1
          exact RSK.mono (hPc.grow hDo g9 (by decide)) (fun b _ hb => hb.1)
      replace hP := hP.grow hDo g9 (by decide)
      replace hr := hr.grow hDo g9 (by decide)
      replace hG := hG.chg g9.chg (fun b _ h1 h2 => by have := h1.2; have := h2.2; omega)
      replace hw := hw.chg g9.chg (fun b h1 h2 => by have := h2.2; omega)
      have z9 := g9.chg.size
      refine WL.assign rfl rfl (WL.nil (WX.then_normal (WC.region (WL.move rfl rfl (?_)))))
      refine WL.slice (l := 128) (h := (p0.drop (128 * j)).length) (j := .i64) (e := eb) Tryz.underlying26 Tryz.sizeOf5 hP rfl (.inl rfl) (.inr ⟨rfl, rfl⟩) ⟨by omega, Nat.le_refl _⟩ rfl ?_
      intro ap2 cp2 hP2 _
      have ep : ((p0.drop (128 * j)).take (p0.drop (128 * j)).length).drop 128 = p0.drop (128 * (j + 1)) := by rw [List.take_length, List.drop_drop, show 128 * j + 128 = 128 * (j + 1) from by omega]
      rw [ep] at hP2 ⊢
      refine WL.assign rfl rfl (WL.nil (WX.block_normal (WX.then_normal (WC.region (WL.add64 rfl rfl (by omega) rfl (WL.move rfl rfl (WL.nil (?_))))))))
      exact WX.loop_next (j + 1, ((a9, c9), ds ++ [⟨cutAt ap 128 0 1, 128, (p0.drop (128 * j)).take 128⟩]), (ap2, cp2)) ⟨rfl, rfl, rfl, rfl, rfl, rfl, rfl, rfl, rfl, trivial⟩ ⟨by show j + 1 ≤ x.2; omega, hP2, hDo9, hDi9, by show (ds ++ [_]).map Rw.xs = chunksA (j + 1) p0; rw [chunksA_snoc, List.map_append, hds]; rfl, hG, hr, hw, by omega⟩ (by show x.2 - (j + 1) < x.2 - j; omega)
    ·
      refine WL.nil (WX.then_normal (WC.seq (WC.cond_false rfl (WC.exit (WX.then_exit (WX.then_exit (WX.block_here (?_))))))))
      refine WX.then_normal (WC.seq (WC.region (WL.move rfl rfl (?_))))
      have hjx : j = x.2 := by omega
      have hcs : ∀ d ∈ xss ds, d.length = 128 := fun d hd => by
        have hd' : d ∈ ds.map Rw.xs := hd
        rw [hds] at hd'
        exact chunksA_all j p0 (by omega) d hd'
      have hne : xss ds ≠ [] := fun e => by
        have h1 : (xss ds).length = ds.length := xss_len ds
        rw [e] at h1
        simp at h1
        omega
      have hRS : RS (w.heap.size ≤ ·) w5 ad cd ds := ⟨hDo.rsl.mono (fun b hb => by have h9 : _ ≤ b := hb; show w.heap.size ≤ b; omega), fun r hr => (hDi r hr).rsl⟩
      refine WL.call eg_66 rfl rfl (make_good (n := 128) hRS (by omega) (by rw [lenC_of hne hcs]; rfl)) ?_
      rintro v w6 ⟨⟨go, gs, rfl, hO, hgs, hgo⟩, k6⟩
      replace hDi : ∀ r ∈ ds, RSK (w.heap.size ≤ ·) w6 5 eb r.ao r.cap r.xs := fun r hr => (hDi r hr).pure k6
      have zs_k6 := k6.size
      replace hP := hP.pure k6
      replace hDo := hDo.pure k6
      replace hG := hG.pure k6
      replace hr := hr.pure k6
      replace hw := hw.pure k6
      have hK : KS2 (fun b => w5.heap.size ≤ b) w6 26 5 (some ⟨go, 0, none⟩) 3 (orows gs 128 (three (xss ds) 128 ds.length)) := hO.ks (fun b hb => by omega)
      have hKl : (orows gs 128 (three (xss ds) 128 ds.length)).length = 3 := by rw [orows_len hO.len, hgs]
      have hKx : (orows gs 128 (three (xss ds) 128 ds.length)).map Rw.xs = three (chunksA x.2 p0) 128 x.2 := by
        have h1 := xss_orows (gs := gs) (n := 128) (ys := three (xss ds) 128 ds.length) hO.len
        have h2 : xss ds = chunksA j p0 := hds
        rw [show (orows gs 128 (three (xss ds) 128 ds.length)).map Rw.xs = xss (orows gs 128 (three (xss ds) 128 ds.length)) from rfl, h1, h2, hdsl, hjx]
      clear hO
      refine WL.move rfl rfl (WL.extract rfl rfl rfl (WL.extract rfl rfl rfl (WL.assign rfl rfl (WL.assign rfl rfl (WL.nil (WX.then_normal (WC.seq (?_))))))))
      refine WC.seq (WC.region (WL.move rfl rfl (?_)))
      refine WL.neqF rfl rfl rfl (by rfl) ?_
      refine WL.nil (WX.then_normal (WC.cond_false rfl (WC.skip (WX.then_normal (WC.region (WL.move rfl rfl (WL.move rfl rfl (?_))))))))
      have z6 := k6.size
      have hGs : ∀ b, Eqb ag b → b < w4.heap.size := fun b hb => (hG.outer.at_.eqb hb).2
      have hG1 : KR (w.heap.size ≤ ·) w6 26 5 ag cg rs := hG.mono (fun b hb => hb.1)
      refine WL.append (e := erow) (ys := orows gs 128 (three (xss ds) 128 ds.length)) info_26 rfl Tryz.underlying87 rfl (by show some (Value.slice (some ⟨go, 0, none⟩) 3 3) = some (Value.slice (some ⟨go, 0, none⟩) (orows gs 128 (three (xss ds) 128 ds.length)).length 3); rw [hKl]) hG1.outer (hK.outer.rsl.src Tryz.underlying87) (by constructor <;> omega) (fun b hb => by have h9 : _ ≤ b := hb; show w.heap.size ≤ b; omega) rfl ?_
      intro a7 c7 w7 hG7 g7 n7
      have hG7k := hG1.app (by decide) (fun r hr => RSK.mono (hK.inner r hr) (fun b _ hb => by show w.heap.size ≤ b; omega)) hG7 g7
      have z7 := g7.chg.size
      replace hDo := hDo.chg g7.chg (fun b _ h1 h2 => by have := hGs b h2.1; have h9 : _ ≤ b := h1; omega)
      replace hDi : ∀ r ∈ ds, RSK (w.heap.size ≤ ·) w7 5 eb r.ao r.cap r.xs := fun r hr => (hDi r hr).grow hG1.outer g7 (by decide)
      replace hP := hP.grow hG1.outer g7 (by decide)
      replace hr := hr.grow hG1.outer g7 (by decide)
      replace hw := hw.chg g7.chg (fun b h1 h2 => by have := h2.2; omega)
      refine WL.move rfl rfl (?_)
      refine WL.append (e := erow) (xs := rs ++ orows gs 128 (three (xss ds) 128 ds.length)) info_26 rfl Tryz.underlying87 rfl rfl hG7k.outer (hDo.rsl.src Tryz.underlying87) (by rw [List.length_append, hKl]; constructor <;> omega) (fun b hb => by have h9 : _ ≤ b := hb; show w.heap.size ≤ b; omega) rfl ?_
      intro a8 c8 w8 hG8 g8 n8
      have hG8k := hG7k.app (by decide) hDi hG8 g8
      have z8 := g8.chg.size
      replace hP := hP.grow hG7k.outer g8 (by decide)
      replace hr := hr.grow hG7k.outer g8 (by decide)
      replace hw := hw.chg g8.chg (fun b h1 h2 => by have := h2.2; omega)
      refine WL.assign rfl rfl (WL.nil (WX.block_normal (WX.then_normal (WC.region (WL.add64 rfl rfl (by omega) rfl (WL.move rfl rfl (WL.nil (?_))))))))
      have ep : p0.drop (128 * j) = (padA b).drop (128 * datR (rows.take (i + 1))) := by rw [hp0, List.drop_drop, htk, hjx, Nat.mul_add]
      rw [ep] at hP ⊢
      refine WX.loop_next (i + 1, ((a8, c8), rs ++ orows gs 128 (three (xss ds) 128 ds.length) ++ ds), (ap, cp)) ⟨rfl, rfl, rfl, rfl, rfl, rfl, trivial⟩ ⟨by show i + 1 ≤ rows.length; omega, RSK.mono hP (fun b _ hb => hb.1), hG8k, ?_, RSK.mono hr (fun b _ hb => hb.1), hw⟩ (by show rows.length - (i + 1) < rows.length - i; omega)
      show (rs ++ orows gs 128 (three (xss ds) 128 ds.length) ++ ds).map Rw.xs = layR (rows.take (i + 1)) (padA b)
      rw [List.map_append, List.map_append, hrs, hKx, hds, hjx, List.take_add_one, hx, Option.toList_some, layR_append, ← hp0, layR, layR, List.append_nil, List.append_assoc]
  ·
    refine WL.nil (WX.then_normal (WC.seq (WC.cond_false rfl (WC.exit (WX.then_exit (WX.then_exit (WX.block_here (?_))))))))
    refine WX.then_normal (WC.seq (WC.region (WL.move rfl rfl (WL.assign rfl rfl (WL.assign rfl rfl (WL.nil (WX.then_normal (?_))))))))
    refine WC.ret (?_)
    refine WX.ret2 (.inl rfl) Tryz.results41 rfl rfl ?_
    have hil : i = rows.length := by omega
    subst hil
    rw [List.take_length, hlay] at hrs
    exact ⟨_, rfl, ⟨ag, cg, rs, rfl, hG.mono (fun b hb => hb.1), hrs⟩, hw⟩
end Go.Proofs.YtggecdldnpildaaGreat
namespace Go.Proofs.YtggecdldnpildaaGreat
open Go.RowKit Go.HL
set_option maxRecDepth 100000

/-! a block is written -/
theorem bdrv_in {s : RA} {addr size : Nat} (h5 : 5 ≤ s.dn) : ∀ d ∈ bdrv s addr size, isS s d := fun d hd => by
  obtain ⟨j, _, _, rfl⟩ := drvA_in (by omega) hd
  have := Nat.mod_lt (addr + j) (show 0 < s.dn by omega)
  exact ⟨by omega, by omega⟩
theorem bdrv_len {s : RA} {addr size : Nat} (hd : s.dn ≤ 16) : (bdrv s addr size).length ≤ 16 := by rw [drvA_len]; omega
theorem layA_all (n : Nat) (b : List UInt8) (hn : 4 ≤ n) : ∀ c ∈ layA n b, c.length = 128 := by
  refine layR_all _ _ ?_
  rw [datR_rows hn]
  have := secsA_up (size := b.length)
  simp [padA]
  omega
set_option maxHeartbeats 2000000 in
theorem awrite_good {A S : Nat → Prop} {w : World} {a R f : Nat} {s : RA} (hB : AB w a R s.dn f) (hna : ¬ A a) (h : RK A w R s) (hA : ∀ x, A x → x < w.heap.size) (hu : Up s) (h5 : 5 ≤ s.dn) (hf : f < s.sn) (addr : Nat) {ao : Option Addr} {c : Nat} {b : List UInt8} (hb : RSl S w eb ao c b) (hl : 1 ≤ b.length ∧ b.length ≤ 1024)
    (ha : addr + costA s.dn (secsA b.length) ≤ s.dn * (s.sn - f)) (hn : s.waits.length ≤ 90000) (hg : (bgon s addr b.length).length ≤ 3) :
    Calls Tryz.prog 17 [ptr a, vi addr, .slice ao b.length c].toArray w (Ret fun v w' => v = vi 0 ∧ RK (fun x => A x ∨ w.heap.size ≤ x) w' R (wrT s f addr (layA s.dn b) (layA s.dn b).length) ∧ Chg A w w') := by
  have hw := Chg.refl Nob w
  have la := hB.lt
  have hdn := h.ok.dn
  have hsn := h.ok.sn
  have hR := hA R h.aR
  replace hb := hb.old
  have hm : s.dn * (s.sn - f) ≤ 16 * 2000 := Nat.mul_le_mul (by omega) (by omega)
  refine Calls.of_WC Tryz.func17 rfl Tryz.ntmps17 (by simp) ?_
  refine WC.seq (WC.region (WL.assign rfl rfl (WL.nil (WX.then_normal (WC.seq (WC.region (WL.move rfl rfl (?_))))))))
  refine WL.move rfl rfl (WL.move rfl rfl (WL.len Tryz.underlying26 rfl rfl (?_)))
  refine WL.call eg_21 rfl rfl (drives_good hB h h5 hf addr b.length hl ha) ?_
  rintro v w1 ⟨⟨a1, c1, rfl, hD⟩, k1⟩
  have zs_k1 := k1.size
  replace hB := hB.pure k1
  replace h := h.pure k1
  replace hb := hb.pure k1
  replace hw := hw.pure k1
  refine WL.move rfl rfl (WL.extract rfl rfl rfl (WL.extract rfl rfl rfl (WL.assign rfl rfl (WL.assign rfl rfl (WL.nil (WX.then_normal (WC.seq (?_))))))))
  refine WC.seq (WC.region (WL.move rfl rfl (?_)))
  refine WL.neqF rfl rfl rfl (by rfl) ?_
  refine WL.nil (WX.then_normal (WC.cond_false rfl (WC.skip (WX.then_normal (WC.seq (WC.seq (WC.region (?_))))))))
  refine WL.move rfl rfl (WL.move rfl rfl (?_))
  refine WL.call eg_40 rfl rfl (gone_calls hB h hD.rsl (bdrv_in h5) (Nat.le_trans (bdrv_len hdn.2) (by decide))) ?_
  rintro v w2 ⟨hgood, _, k2⟩
  obtain ⟨a2, c2, rfl, hG⟩ := hgood hg
  have zs_k2 := k2.size
  replace hB := hB.pure k2
  replace h := h.pure k2
  replace hb := hb.pure k2
  replace hw := hw.pure k2
  refine WL.move rfl rfl (WL.extract rfl rfl rfl (WL.extract rfl rfl rfl (WL.assign rfl rfl (WL.assign rfl rfl (WL.nil (WX.then_normal (WC.seq (?_))))))))
  refine WC.region (WL.move rfl rfl (?_))
  refine WL.neqF rfl rfl rfl (by rfl) ?_
  refine WL.nil (WX.then_normal (WC.cond_false rfl (WC.skip (WX.then_normal (WC.seq (WC.region (WL.move rfl rfl (?_))))))))
  refine WL.move rfl rfl (?_)
  refine WL.call eg_41 rfl rfl (layout_calls hB ⟨h5, hdn.2⟩ hb hl) ?_
  rintro v w3 ⟨⟨a3, c3, rs, rfl, hK, hx⟩, k3⟩
  have zw2 := hw.size
  have zs_k3 := k3.size
  replace hB := hB.pure k3
  replace h := h.pure k3
  replace hb := hb.pure k3
  replace hw := hw.pure k3
  refine WL.move rfl rfl (WL.extract rfl rfl rfl (WL.extract rfl rfl rfl (WL.assign rfl rfl (WL.assign rfl rfl (WL.nil (WX.then_normal (WC.seq (?_))))))))
  refine WC.seq (WC.region (WL.move rfl rfl (?_)))
  refine WL.neqF rfl rfl rfl (by rfl) ?_
  refine WL.nil (WX.then_normal (WC.cond_false rfl (WC.skip (WX.then_normal (WC.seq (WC.seq (WC.region (?_))))))))
  refine WL.move rfl rfl (WL.len Tryz.underlying87 rfl rfl (WL.move rfl rfl (WL.nil (WX.then_normal (WC.block (?_))))))
  have zw3 := hw.size
  obtain ⟨n0, hn0⟩ : ∃ n0, n0 = w3.heap.size := ⟨_, rfl⟩
  obtain ⟨cells, hcells⟩ : ∃ cells, cells = layA s.dn b := ⟨_, rfl⟩
  have hcl : cells.length = costA s.dn (secsA b.length) := by rw [hcells, layA_len _ _ (by omega)]
  have hrl : rs.length = cells.length := by rw [hcells, ← hx]; simp
  have h20 := (costA_is ⟨h5, hdn.2⟩ (secsA_le hl.2)).2
  rw [← hcells] at hx ⊢
  have hK0 : KR (fun x => w.heap.size ≤ x ∧ x < n0) w3 26 5 a3 c3 rs := (hK.mono (S' := fun x => w.heap.size ≤ x) (fun x hx => by have h9 : _ ≤ x := hx; show w.heap.size ≤ x; omega)).low.mono (fun x hx => ⟨hx.1, by rw [hn0]; exact hx.2⟩)
  refine WC.loop (σ := Nat) (fun i => [(0, ptr a), (1, vi addr), (44, .slice a3 rs.length c3), (45, vi rs.length), (46, vi (i : Int))]) (fun i w' => i ≤ rs.length ∧ AB w' a R s.dn f ∧ KR (fun x => w.heap.size ≤ x ∧ x < n0) w' 26 5 a3 c3 rs ∧ RK (fun x => A x ∨ n0 ≤ x) w' R (wrT s f addr cells i) ∧ Chg A w w' ∧ n0 ≤ w'.heap.size) (fun i => rs.length - i) 0 ⟨rfl, rfl, rfl, rfl, rfl, trivial⟩ ⟨Nat.zero_le _, hB, hK0, h.mono (fun x hx => .inl hx), hw.mono (fun x _ hx => hx.elim), by omega⟩ ?_
  clear hB h hb hw hK hK0
  rintro i w4 ⟨hi, hB, hK, h, hw, zn⟩
  refine WC.seq (WC.region (?_))
  refine WL.lss? rfl rfl rfl (fun h47 => ?_) (fun h47 => ?_)
  ·
    refine WL.nil (WX.then_normal (WC.seq (WC.cond_true rfl (WC.skip (WX.then_normal (WC.seq (WC.block (?_))))))))
    refine WC.seq (WC.region (WL.move rfl rfl (?_)))
    obtain ⟨r, hr⟩ : ∃ r, rs[i]? = some r := ⟨_, List.getElem?_eq_getElem (by omega)⟩
    have hrc : cells[i]? = some r.xs := by rw [← hx, List.getElem?_map, hr]; rfl
    have hr128 : r.xs.length = 128 := layA_all s.dn b (by omega) _ (hcells ▸ List.mem_of_getElem? hrc)
    refine WL.indexT (e := erow) Tryz.underlying87 Tryz.sizeOf26 hK.outer.rsl rfl rfl ⟨hr, rfl⟩ rfl ?_
    intro bb oo hcc
    refine WL.load Tryz.isAgg26 rfl (hcc 0 _ rfl) rfl ?_
    refine WL.assign rfl rfl (WL.assign rfl rfl (WL.nil (WX.then_normal (WC.seq (WC.region (WL.move rfl rfl (WL.move rfl rfl (?_))))))))
    refine WL.move rfl rfl (?_)
    refine WL.add64 rfl rfl (by constructor <;> omega) rfl ?_
    rw [show ((addr : Int) + (i : Int)) = ((addr + i : Nat) : Int) from by omega]
    refine WL.move rfl rfl (?_)
    obtain ⟨d1, d2, d3, d4⟩ := wrT_dn s f addr cells i
    have hri : RSl (fun x => w.heap.size ≤ x ∧ x < n0) w4 eb r.ao r.cap r.xs := (hK.inner r (List.mem_of_getElem? hr)).rsl
    refine WL.call eg_42 rfl rfl (put_calls (s := wrT s f addr cells i) (by rw [d1]; exact hB) h (wrT_up hu _ _ _ _) (by rw [d1]; exact h5) (by rw [d2]; exact hf) (addr + i) (by rw [d1, d2]; omega) hri (fun x h1 h2 => by have := h1.1; omega) hr128 (by omega)) ?_
    rintro v w5 ⟨rfl, h5', k5⟩
    have z5 := k5.size
    replace hB := hB.chg k5 (fun hm => hm.elim hna (fun h9 => by omega))
    replace hK := hK.chg k5 (fun x h1 h2 h3 => h3.elim (fun h9 => by have := hA x h9; have := h2.1; omega) (fun h9 => by have := h2.2; omega))
    replace hw := hw.chg k5 (fun x h1 h2 => h2.elim id (fun h9 => by omega))
    have e5 : putS (wrT s f addr cells i) f (addr + i) r.xs = wrT s f addr cells (i + 1) := by rw [wrT, List.getD_eq_getElem?_getD, hrc]; rfl
    rw [e5] at h5'
    replace h := h5'.mono (A' := fun x => A x ∨ n0 ≤ x) (fun x hx => hx.elim id (fun h9 => .inr (by omega)))
    refine WL.assign rfl rfl (WL.nil (WX.then_normal (WC.seq (WC.region (WL.move rfl rfl (?_))))))
    refine WL.neqF rfl rfl rfl (by rfl) ?_
    refine WL.nil (WX.then_normal (WC.cond_false rfl (WC.skip (WX.block_normal (WX.then_normal (WC.region (WL.add64 rfl rfl (by omega) rfl (?_))))))))
    refine WL.move rfl rfl (WL.nil (?_))
    exact WX.loop_next (i + 1) ⟨rfl, rfl, rfl, rfl, rfl, trivial⟩ ⟨by omega, hB, hK, h, hw, by omega⟩ (by omega)
  ·
    refine WL.nil (WX.then_normal (WC.seq (WC.cond_false rfl (WC.exit (WX.then_exit (WX.then_exit (WX.block_here (?_))))))))
    refine WX.then_normal (WC.seq (WC.region (WL.assign rfl rfl (WL.nil (WX.then_normal (WC.ret (?_)))))))
    refine WX.ret1 (.inl rfl) Tryz.results17 rfl ?_
    have hil : i = cells.length := by omega
    subst hil
    exact ⟨_, rfl, rfl, h.mono (fun x hx => hx.imp id (fun h9 => by omega)), hw⟩
end Go.Proofs.YtggecdldnpildaaGreat
namespace Go.Proofs.YtggecdldnpildaaGreat
open Go.RowKit Go.HL
set_option maxRecDepth 100000

/-! a block is read -/
theorem kR_abs (l : List Stp) : kR l = ((l.map Stp.abs).map fun p => p.1.length - 3).sum := by
  rw [kR, List.map_map]
  congr 1
  refine List.map_congr_left (fun s _ => ?_)
  simp [Stp.abs]
theorem kR_str {s : RA} {f addr size : Nat} {l : List Stp} (h5 : 5 ≤ s.dn) (h : l.map Stp.abs = strA s f addr size) : kR l = secsA size := by
  rw [kR_abs, h, strA, List.map_map]
  have e : ((fun p : List (List UInt8) × List Int => p.1.length - 3) ∘ stpA s f) = fun r : Nat × Nat => r.2 := by
    funext r
    show (stpA s f r).1.length - 3 = r.2
    rw [(stpA_len s f r).1]
    omega
  rw [e]
  exact datR_rows (by omega) _ _
theorem str_ok {s : RA} (hok : s.ok) (h5 : 5 ≤ s.dn) {f addr size : Nat} {l : List Stp} (h : l.map Stp.abs = strA s f addr size) {out : List Int} (ho : (bgon s addr size).length + out.length ≤ 3) : ∀ st ∈ l, OkCol st.abs.1 st.abs.2 (srt (bgon s addr size ++ out)) := by
  intro st hst
  have h1 : st.abs ∈ strA s f addr size := by rw [← h]; exact List.mem_map.2 ⟨st, hst, rfl⟩
  rw [strA, List.mem_map] at h1
  obtain ⟨r, hr, e⟩ := h1
  rw [← e]
  have hm := rowsA_mem (n := s.dn) (by omega) _ _ _ hr
  rw [sumR_rows (by omega) _ _ 0] at hm
  refine stpA_ok hok ⟨hm.1.1, hm.1.2.1⟩ (by rw [srt_len, List.length_append]; exact ho) (fun c h1 h2 hg => ?_)
  rw [srt_mem, List.mem_append]
  refine .inl (gonA_cov (s := s) (a := addr) (cost := costA s.dn (secsA size)) (by omega) c (by omega) ?_ hg)
  show c < addr + sumR (rowsA s.dn 0 (secsA size))
  omega
set_option maxHeartbeats 8000000 in
theorem aread_good {A : Nat → Prop} {w : World} {a R f : Nat} {s : RA} (hB : AB w a R s.dn f) (h : RK A w R s) (hu : Up s) (h5 : 5 ≤ s.dn) (hf : f < s.sn) (addr size : Nat) (hs : 1 ≤ size ∧ size ≤ 1024) (ha : addr + costA s.dn (secsA size) ≤ s.dn * (s.sn - f)) (sum : ByteArray) (hsum : sum.size = 32) (hg : (bgon s addr size).length ≤ 3) :
    Calls Tryz.prog 19 [ptr a, vi addr, vi size, .string sum].toArray w (Ret fun v w' => (rdA s f addr size sum = none → v = .tuple #[.slice none 0 0, .slice none 0 0, vi 4]) ∧ (∀ t, rdA s f addr size sum = some t → ∃ fa fc ba bc, v = .tuple #[.slice fa (bytA s f addr size (srt (bgon s addr size ++ t))).length fc, .slice ba (srt (bgon s addr size ++ t)).length bc, vi 0] ∧ Row (w.heap.size ≤ ·) w' 5 eb fa fc (bytA s f addr size (srt (bgon s addr size ++ t))) ∧ Row (w.heap.size ≤ ·) w' 3 ei ba bc (srt (bgon s addr size ++ t)) ∧ (bytA s f addr size (srt (bgon s addr size ++ t))).length = size) ∧ Chg Nob w w') := by
  have hw := Chg.refl Nob w
  have la := hB.lt
  have hok := h.ok
  have hdn := h.ok.dn
  replace h := h.old
  refine Calls.of_WC Tryz.func19 rfl Tryz.ntmps19 (by simp) ?_
  refine WC.seq (WC.region (?_))
  refine WL.box rfl rfl ?_
  intro g3 w3 hge3 hlt3 hb3 k3
  have zs_k3 := k3.size
  replace hB := hB.pure k3
  replace h := h.pure k3
  replace hw := hw.pure k3
  refine WL.box rfl rfl ?_
  intro g4 w4 hge4 hlt4 hb4 k4
  have zs_k4 := k4.size
  replace hB := hB.pure k4
  replace h := h.pure k4
  replace hw := hw.pure k4
  replace hb3 := hb3.pure k4
  refine WL.assign rfl rfl (WL.assign rfl rfl (WL.assign rfl rfl (WL.nil (WX.then_normal (WC.seq (WC.region (WL.move rfl rfl (?_))))))))
  refine WL.move rfl rfl (WL.loadB Tryz.isAgg3 hb3 rfl rfl rfl (?_))
  refine WL.call eg_21 rfl rfl (drives_good hB h h5 hf addr size hs ha) ?_
  rintro v w5 ⟨⟨da, dc, rfl, hD⟩, k5⟩
  have zw4 := hw.size
  have zs_k5 := k5.size
  replace hB := hB.pure k5
  replace h := h.pure k5
  replace hw := hw.pure k5
  replace hb3 := hb3.pure k5
  replace hb4 := hb4.pure k5
  replace hD := hD.lt
  refine WL.move rfl rfl (WL.extract rfl rfl rfl (WL.extract rfl rfl rfl (WL.assign rfl rfl (WL.assign rfl rfl (WL.nil (WX.then_normal (WC.seq (?_))))))))
  refine WC.seq (WC.region (WL.move rfl rfl (?_)))
  refine WL.neqF rfl rfl rfl (by rfl) ?_
  refine WL.move rfl rfl (WL.want rfl rfl rfl (WL.loadB Tryz.isAgg9 hb4 rfl rfl rfl (WL.want rfl rfl rfl (WL.lens Tryz.underlying9 rfl rfl (WL.want rfl rfl rfl (?_))))))
  refine WL.neqF rfl rfl rfl (by omega) ?_
  refine WL.pickF rfl rfl rfl (WL.nil (WX.then_normal (WC.cond_false rfl (WC.skip (WX.then_normal (WC.seq (WC.region (?_))))))))
  refine WL.move rfl rfl (WL.move rfl rfl (?_))
  have zw5 := hw.size
  obtain ⟨G, hG⟩ : ∃ G, G = bgon s addr size := ⟨_, rfl⟩
  refine WL.call eg_40 rfl rfl (gone_calls hB h hD.rsl (bdrv_in h5) (Nat.le_trans (bdrv_len hdn.2) (by decide))) ?_
  rintro v w6 ⟨hgood, _, k6⟩
  obtain ⟨ga, gc, rfl, hGr⟩ := hgood hg
  have l3 := hb3.lt
  have l4 := hb4.lt
  have zs_k6 := k6.size
  replace hB := hB.pure k6
  replace h := h.pure k6
  replace hw := hw.pure k6
  replace hb3 := hb3.pure k6
  replace hb4 := hb4.pure k6
  replace hD := hD.pure k6
  replace hGr := hGr.lt
  refine WL.move rfl rfl (WL.extract rfl rfl rfl (WL.extract rfl rfl rfl (?_)))
  refine WL.alloc Tryz.zeroValue39 rfl ?_
  intro g1 w7 hge1 hlt1 hb1 k7
  have zs_k7 := k7.size
  replace hB := hB.pure k7
  replace h := h.pure k7
  replace hw := hw.pure k7
  replace hb3 := hb3.pure k7
  replace hb4 := hb4.pure k7
  replace hD := hD.pure k7
  replace hGr := hGr.pure k7
  refine WL.store Tryz.sizeOf39 hb1 rfl rfl rfl rfl ?_
  intro w_1 hs_1 hn_1 k_1
  have zs_k_1 := k_1.size
  replace hB := hB.chg k_1 (by intro h1; have h2 : _ = _ := h1; exfalso; omega)
  replace h := h.chg k_1 (by intro b h1 h2 h3; have h4 : _ = _ := h3; (try dsimp only at h2); exfalso; omega)
  replace hw := hw.chg k_1 (by intro x h1 h2; have h3 : _ = _ := h2; exfalso; omega)
  replace hb3 := hb3.chg k_1 (by intro h1; have h2 : _ = _ := h1; exfalso; omega)
  replace hb4 := hb4.chg k_1 (by intro h1; have h2 : _ = _ := h1; exfalso; omega)
  replace hD := hD.chg k_1 (by intro b h1 h2 h3; have h4 : _ = _ := h3; (try dsimp only at h2); exfalso; omega)
  replace hGr := hGr.chg k_1 (by intro b h1 h2 h3; have h4 : _ = _ := h3; (try dsimp only at h2); exfalso; omega)
  replace hb1 := hn_1
  refine WL.assign rfl rfl (WL.nil (WX.then_normal (WC.seq (WC.seq (WC.region (WL.move rfl rfl (?_)))))))
  refine WL.neqF rfl rfl rfl (by rfl) ?_
  refine WL.nil (WX.then_normal (WC.cond_false rfl (WC.skip (WX.then_normal (WC.seq (WC.region (WL.move rfl rfl (?_))))))))
  refine WL.move rfl rfl (WL.loadB Tryz.isAgg3 hb3 rfl rfl rfl (?_))
  have zw7 := hw.size
  refine WL.call eg_45 rfl rfl (stripes_calls hB h hu h5 hf addr size hs ha) ?_
  rintro v w8 ⟨⟨la2, lc, l, rfl, hOr, hI, habs⟩, k8⟩
  have z8 := k8.size
  have zs_k8 := k8.size
  replace hB := hB.pure k8
  replace h := h.pure k8
  replace hw := hw.pure k8
  replace hb3 := hb3.pure k8
  replace hb4 := hb4.pure k8
  replace hD := hD.pure k8
  replace hGr := hGr.pure k8
  replace hb1 := hb1.pure k8
  have hO := hOr.rsk.low
  clear hOr
  replace hI := hI.low
  refine WL.move rfl rfl (WL.extract rfl rfl rfl (WL.extract rfl rfl rfl (?_)))
  refine WL.alloc Tryz.zeroValue91 rfl ?_
  intro g2 w9 hge2 hlt2 hb2 k9
  have zs_k9 := k9.size
  replace hB := hB.pure k9
  replace h := h.pure k9
  replace hw := hw.pure k9
  replace hb3 := hb3.pure k9
  replace hb4 := hb4.pure k9
  replace hD := hD.pure k9
  replace hGr := hGr.pure k9
  replace hb1 := hb1.pure k9
  replace hO := hO.pure k9
  replace hI := hI.pure k9
  refine WL.store Tryz.sizeOf91 hb2 rfl rfl rfl rfl ?_
  intro w_2 hs_2 hn_2 k_2
  have zs_k_2 := k_2.size
  replace hB := hB.chg k_2 (by intro h1; have h2 : _ = _ := h1; exfalso; omega)
  replace h := h.chg k_2 (by intro b h1 h2 h3; have h4 : _ = _ := h3; (try dsimp only at h2); exfalso; omega)
  replace hw := hw.chg k_2 (by intro x h1 h2; have h3 : _ = _ := h2; exfalso; omega)
  replace hb3 := hb3.chg k_2 (by intro h1; have h2 : _ = _ := h1; exfalso; omega)
  replace hb4 := hb4.chg k_2 (by intro h1; have h2 : _ = _ := h1; exfalso; omega)
  replace hD := hD.chg k_2 (by intro b h1 h2 h3; have h4 : _ = _ := h3; (try dsimp only at h2); exfalso; omega)
  replace hGr := hGr.chg k_2 (by intro b h1 h2 h3; have h4 : _ = _ := h3; (try dsimp only at h2); exfalso; omega)
  replace hb1 := hb1.chg k_2 (by intro h1; have h2 : _ = _ := h1; exfalso; omega)
  replace hO := hO.chg k_2 (by intros; exfalso; (try dsimp only at *); omega)
  replace hI := hI.chg k_2 (by intro b h1 h2 h3; have h4 : _ = _ := h3; (try dsimp only at h2); exfalso; omega)
  replace hb2 := hn_2
  refine WL.assign rfl rfl (WL.nil (WX.then_normal (WC.seq (WC.seq (WC.region (WL.move rfl rfl (?_)))))))
  refine WL.neqF rfl rfl rfl (by rfl) ?_
  refine WL.nil (WX.then_normal (WC.cond_false rfl (WC.skip (WX.then_normal (WC.seq (WC.region (WL.move rfl rfl (?_))))))))
  refine WL.makeFun rfl rfl ?_
  have hb1' : Blk _ g1 39 [.slice ga (bgon s addr size).length gc] := hb1
  have hb2' : Blk _ g2 91 [.slice la2 l.length lc] := hb2
  have hatD := hD.at_
  have l10 := hb1'.lt
  have l20 := hb2'.lt
  refine WL.call eg_46 rfl rfl (rst_calls hb1' hGr.rsl (by omega) hD (fun b h1 h2 => by have := h1.2; have := h2.1; omega) (fun b h1 h2 => by have := h1.2; omega)) ?_
  rintro v w10 ⟨rfl, hr, k10⟩
  have z10 := k10.size
  have hM : ∀ x, (x < w4.heap.size ∨ w5.heap.size ≤ x) → Eqb da x → False := fun x h1 h2 => by have := hatD.eqb h2; omega
  replace hb1' := hb1'.chg k10 (fun h => hM _ (.inr (by omega)) h)
  replace hb2' := hb2'.chg k10 (fun h => hM _ (.inr (by omega)) h)
  replace hb3 := hb3.chg k10 (fun h => hM _ (.inl (by omega)) h)
  replace hb4 := hb4.chg k10 (fun h => hM _ (.inl (by omega)) h)
  replace hGr := hGr.chg k10 (fun x _ h1 h2 => hM x (.inr h1.1) h2)
  replace hO := hO.chg k10 (fun x _ h1 _ h2 => hM x (.inr (by have := h1.1; omega)) h2)
  replace hI := hI.chg k10 (fun x _ h1 h2 => hM x (.inr (by have := h1.1; omega)) h2)
  replace hw := hw.chg k10 (fun x h1 h2 => hM x (.inl (by omega)) h2)
  refine WL.assign rfl rfl (WL.nil (WX.then_normal (WC.seq (WC.region (?_)))))
  obtain ⟨N, hN⟩ : ∃ N, N = w10.heap.size := ⟨_, rfl⟩
  refine WL.alloc Tryz.zeroValue26 rfl ?_
  intro g5 w11 hge5 hlt5 hb5 k11
  have zs_k11 := k11.size
  replace hw := hw.pure k11
  replace hb3 := hb3.pure k11
  replace hb4 := hb4.pure k11
  replace hGr := hGr.pure k11
  replace hO := hO.pure k11
  replace hI := hI.pure k11
  replace hb1' := hb1'.pure k11
  replace hb2' := hb2'.pure k11
  replace hr := hr.pure k11
  refine WL.nil (WX.then_normal (WC.seq (WC.region (?_))))
  refine WL.alloc Tryz.zeroValue39 rfl ?_
  intro g6 w12 hge6 hlt6 hb6 k12
  have zs_k12 := k12.size
  replace hw := hw.pure k12
  replace hb3 := hb3.pure k12
  replace hb4 := hb4.pure k12
  replace hGr := hGr.pure k12
  replace hO := hO.pure k12
  replace hI := hI.pure k12
  replace hb1' := hb1'.pure k12
  replace hb2' := hb2'.pure k12
  replace hr := hr.pure k12
  replace hb5 := hb5.pure k12
  refine WL.nil (WX.then_normal (WC.seq (WC.region (?_))))
  refine WL.makeFun6 rfl rfl rfl rfl rfl rfl rfl ?_
  refine WL.assign rfl rfl (WL.nil (WX.then_normal (WC.seq (WC.seq (WC.region (WL.loadB Tryz.isAgg39 hb1' rfl rfl rfl (WL.len Tryz.underlying39 rfl rfl (?_))))))))
  refine WL.sub64 rfl rfl (by constructor <;> omega) rfl ?_
  refine WL.add64 rfl rfl (by constructor <;> omega) rfl ?_
  rw [show (3 : Int) - ((bgon s addr size).length : Int) + 1 = ((4 - (bgon s addr size).length : Nat) : Int) from by omega]
  refine WL.move rfl rfl (WL.nil (WX.then_normal (WC.block (?_))))
  obtain ⟨rest, hrest⟩ : ∃ rest, rest = brst s addr size := ⟨_, rfl⟩
  have erest : rstA (bgon s addr size) (bdrv s addr size) = rest := by rw [hrest]; rfl
  have hrl : rest.length ≤ 16 := by rw [hrest]; exact Nat.le_trans (List.length_filter_le _ _) (bdrv_len hdn.2)
  have ep : ∀ t, fitB G l size sum t = fitA s f addr size sum (srt (bgon s addr size ++ t)) := fun t => by rw [fitB, fitA, bytA, habs, hG]
  have erd : rdA s f addr size sum = (setsA rest (4 - G.length)).find? (fitB G l size sum) := by
    rw [rdA, ← hrest, hG]
    congr 1
    funext t
    have h9 := ep t
    rw [← hG] at h9 ⊢
    exact h9.symm
  have hk := kR_str h5 habs
  have hsu := secsA_up (size := size)
  have hs8 := secsA_le hs.2
  have hll : l.length ≤ 8 := by
    have h1 : l.length = (l.map Stp.abs).length := by simp
    rw [h1, habs, strA, List.length_map]
    exact Nat.le_trans (rowsA_len (by omega) _ _) hs8
  have hokl : ∀ out : List Int, G.length + out.length ≤ 3 → ∀ st ∈ l, OkCol st.abs.1 st.abs.2 (srt (G ++ out)) := fun out ho => by
    rw [hG] at ho ⊢
    exact str_ok hok h5 habs ho
  have hby : ∀ t, bytB G l size t = bytA s f addr size (srt (bgon s addr size ++ t)) := fun t => by rw [bytB, bytA, habs, hG]
  have zw12 := hw.size
  have hE : FE N w12 g1 g2 g3 g4 g5 g6 ga gc G la2 lc l size sum := ⟨by rw [hG]; exact hb1', hb2', hb3, hb4, ⟨_, _, _, hb5⟩, ⟨_, _, _, hb6⟩, by rw [hG]; exact hGr.rsl.mono (fun x hx => by have := hx.2; show x < N; omega), RSK.mono hO (fun x _ hx => by have := hx.2; show x < N; omega), hI.mono (fun x _ hx => by have := hx.2; show x < N; omega), ⟨by omega, by omega, by omega, by omega⟩, by omega, by omega⟩
  have hr2 : RSl (· < N) w12 ei da dc rest := by rw [← erest]; exact hr.rsl.mono (fun x hx => by have := hx.2; show x < N; omega)
  rw [erest]
  rw [← hG] at hg ⊢
  have g5w : w.heap.size ≤ g5 := by omega
  have g6w : w.heap.size ≤ g6 := by omega
  refine WC.loop (σ := Nat) (fun n => [(15, .slice da rest.length dc), (16, ptr g5), (17, ptr g6), (18, fnFit g1 g2 g3 g4 g5 g6), (60, vi ((4 - G.length : Nat) : Int)), (61, vi (n : Int))]) (fun n w' => n ≤ 4 - G.length ∧ FE N w' g1 g2 g3 g4 g5 g6 ga gc G la2 lc l size sum ∧ RSl (· < N) w' ei da dc rest ∧ (setsA rest n).find? (fitB G l size sum) = none ∧ Chg Nob w w') (fun n => 4 - G.length - n) 0 ⟨rfl, rfl, rfl, rfl, rfl, rfl, trivial⟩ ⟨Nat.zero_le _, hE, hr2, rfl, hw⟩ ?_
  clear hE hr2 hw hb1' hb2' hb3 hb4 hb5 hb6 hGr hO hI hr
  rintro n w13 ⟨hn, hE, hr2, hno, hw⟩
  have hne := hE.ne
  refine WC.seq (WC.region (?_))
  refine WL.lss? rfl rfl rfl (fun h62 => ?_) (fun h62 => ?_)
  ·
    refine WL.nil (WX.then_normal (WC.seq (WC.cond_true rfl (WC.skip (WX.then_normal (WC.seq (WC.block (?_))))))))
    refine WC.seq (WC.region (WL.move rfl rfl (WL.assign rfl rfl (WL.nil (WX.then_normal (WC.seq (WC.region (?_))))))))
    refine WL.move rfl rfl (WL.move rfl rfl (WL.move rfl rfl (?_)))
    have hn3 : n < 4 - G.length := by omega
    have zb := hw.size
    have hcall := try_calls (by omega) hll ⟨hs.1, by rw [hk]; omega⟩ (by rw [hk]; omega) hs.2 n (set := []) (sa := none) (sc := 0) hE hr2 (RSl.nil (fun x => x ≠ g5 ∧ x ≠ g6) w13 ei none 0) (by omega) (by show 0 + n ≤ 90; omega) (fun out ho => hokl out (by have h9 : out.length = 0 + n := ho; omega))
    rw [List.length_nil] at hcall
    refine WL.call eg_53 rfl rfl (hcall) ?_
    rintro v w14 ⟨rfl, hE14, hgot, k14⟩
    obtain ⟨bo, hbo⟩ : ∃ bo, bo = ((combos rest n []).find? (fitB G l size sum)).isSome := ⟨_, rfl⟩
    rw [← hbo]
    have hgf : GotF _ _ g5 g6 G l size ((combos rest n []).find? (fitB G l size sum)) := hgot
    clear hgot
    replace hr2 := hr2.chg k14 (fun b _ h1 h2 => by have h3 : b < N := h1; rcases h2 with h4 | h4 <;> omega)
    replace hw := hw.chg k14 (fun b h1 h2 => by rcases h2 with h4 | h4 <;> omega)
    refine WL.nil (WX.then_normal (?_))
    first | refine WC.cond_dec rfl (fun hc67 => ?_) (fun hc67 => ?_) | refine WC.cond_split rfl (fun hc67 => ?_) (fun hc67 => ?_)
    ·
      refine WC.seq (?_)
      have hh : bo = true := hc67
      obtain ⟨out, hout⟩ : ∃ out, (combos rest n []).find? (fitB G l size sum) = some out := Option.isSome_iff_exists.1 (by rw [← hbo, hh])
      obtain ⟨hln, fa, fc, ba, bc, h5', hB', h6', hb'⟩ := hgf out hout
      refine WC.draw (Nob) [0, 1, 2, 3, 4] [] mixed rfl rfl (fun wd_3 kd_3 zd_3 => ?_)
      have zs_kd_3 := kd_3.size
      replace hr2 := hr2.pure kd_3
      replace hw := hw.pure kd_3
      replace hE14 := hE14.pure kd_3
      replace h5' := h5'.pure kd_3
      replace hB' := hB'.pure kd_3
      replace h6' := h6'.pure kd_3
      replace hb' := hb'.pure kd_3
      apply DQ.step (E' := [(16, _)])
      case ho => rfl
      case hs => exact ⟨rfl, trivial⟩
      case hk => rfl
      case h1 =>
        intro wq_4 kq_4
        have zs_kq_4 := kq_4.size
        replace hr2 := hr2.pure kq_4
        replace hw := hw.pure kq_4
        replace hE14 := hE14.pure kq_4
        replace h5' := h5'.pure kq_4
        replace hB' := hB'.pure kq_4
        replace h6' := h6'.pure kq_4
        replace hb' := hb'.pure kq_4
        refine WL.loadB Tryz.isAgg26 h5' rfl rfl rfl (?_)
        refine WL.nil ?_
        exact WX.one ⟨rfl, by exact Chg.refl _ _⟩
      apply DQ.step (E' := [(17, _)])
      case ho => rfl
      case hs => exact ⟨rfl, trivial⟩
      case hk => rfl
      case h1 =>
        intro wq_5 kq_5
        have zs_kq_5 := kq_5.size
        replace hr2 := hr2.pure kq_5
        replace hw := hw.pure kq_5
        replace hE14 := hE14.pure kq_5
        replace h5' := h5'.pure kq_5
        replace hB' := hB'.pure kq_5
        replace h6' := h6'.pure kq_5
        replace hb' := hb'.pure kq_5
        refine WL.loadB Tryz.isAgg39 h6' rfl rfl rfl (?_)
        refine WL.nil ?_
        exact WX.one ⟨rfl, by exact Chg.refl _ _⟩
      apply DQ.step (E' := [(68, _)])
      case ho => rfl
      case hs => exact ⟨rfl, trivial⟩
      case hk => rfl
      case h1 =>
        intro wq_6 kq_6
        refine WL.assign rfl rfl (?_)
        refine WL.nil ?_
        exact WX.one ⟨rfl, by exact Chg.refl _ _⟩
      apply DQ.step (E' := [(69, _)])
      case ho => rfl
      case hs => exact ⟨rfl, trivial⟩
      case hk => rfl
      case h1 =>
        intro wq_7 kq_7
        refine WL.assign rfl rfl (?_)
        refine WL.nil ?_
        exact WX.one ⟨rfl, by exact Chg.refl _ _⟩
      apply DQ.step (E' := [])
      case ho => rfl
      case hs => exact trivial
      case hk => rfl
      case h1 =>
        intro wq_8 kq_8
        refine WL.assign rfl rfl (?_)
        refine WL.nil ?_
        exact WX.one ⟨rfl, by exact Chg.refl _ _⟩
      refine DQ.done (fun _ => ?_)
      refine DL.done (fun we_9 ke_9 => ?_)
      have zs_ke_9 := ke_9.size
      replace hr2 := hr2.pure ke_9
      replace hw := hw.pure ke_9
      replace hE14 := hE14.pure ke_9
      replace h5' := h5'.pure ke_9
      replace hB' := hB'.pure ke_9
      replace h6' := h6'.pure ke_9
      replace hb' := hb'.pure ke_9
      refine WX.then_normal (WC.ret (WX.block_ret (WX.then_ret (WX.then_ret (WX.block_ret (WX.then_ret (?_)))))))
      refine WX.ret3 (.inl rfl) Tryz.results19 rfl rfl rfl ?_
      have hft : (setsA rest (4 - G.length)).find? (fitB G l size sum) = some out := setsA_up (m := n + 1) (by rw [setsA_succ, find_append, hno, hout]) (by omega)
      rw [erd, hft]
      refine ⟨_, rfl, (fun h => by cases h), (fun t ht => ?_), hw⟩
      injection ht with ht
      subst ht
      have hb9 := hby out
      rw [← hG] at hb9
      rw [← hb9]
      exact ⟨fa, fc, ba, bc, rfl, hB'.mono (fun x hx => Nat.le_trans zb hx), hb'.mono (fun x hx => Nat.le_trans zb hx), hln⟩
    ·
      refine WC.skip (WX.block_normal (WX.then_normal (WC.region (WL.add64 rfl rfl (by omega) rfl (WL.move rfl rfl (WL.nil (?_)))))))
      have hnone : (combos rest n []).find? (fitB G l size sum) = none := by
        rw [hc67] at hbo
        exact Option.not_isSome_iff_eq_none.1 (by rw [← hbo]; decide)
      exact WX.loop_next (n + 1) ⟨rfl, rfl, rfl, rfl, rfl, rfl, trivial⟩ ⟨by omega, hE14, hr2, by rw [setsA_succ, find_append, hno, hnone], hw⟩ (by omega)
  ·
    refine WL.nil (WX.then_normal (WC.seq (WC.cond_false rfl (WC.exit (WX.then_exit (WX.then_exit (WX.block_here (?_))))))))
    refine WX.then_normal (WC.seq (WC.region (WL.assign rfl rfl (WL.assign rfl rfl (WL.assign rfl rfl (WL.nil (WX.then_normal (?_))))))))
    refine WC.ret (?_)
    refine WX.ret3 (.inl rfl) Tryz.results19 rfl rfl rfl ?_
    rcases Nat.lt_or_ge n (4 - G.length) with hx | hx
    ·
      exfalso
      omega
    ·
      have hnl : n = 4 - G.length := by omega
      rw [hnl] at hno
      rw [erd, hno]
      exact ⟨_, rfl, fun _ => rfl, (fun t ht => by cases ht), hw⟩
end Go.Proofs.YtggecdldnpildaaGreat
namespace Go.Proofs.YtggecdldnpildaaGreat
open Go.RowKit Go.HL
set_option maxRecDepth 100000

/-! the same numbers; a text's sum; what is known -/
theorem bgon_none {s : RA} (h : ∀ d, goneS s d = false) (addr size : Nat) : bgon s addr size = [] := List.filter_eq_nil_iff.2 (fun d _ => by simp [h d])
theorem sum32 (b : List UInt8) : (⟨(sumB b).toArray⟩ : ByteArray).size = 32 := sumB_len b
end Go.Proofs.YtggecdldnpildaaGreat
namespace Go.Proofs.YtggecdldnpildaaGreat
open Go.RowKit Go.HL
set_option maxRecDepth 100000

/-! two blocks apart: the law -/
/-- a block is read where all that has failed is gone -/
theorem aread_gone {A : Nat → Prop} {w : World} {a R f : Nat} {s : RA} (hB : AB w a R s.dn f) (h : RK A w R s) (hu : Up s) (h5 : 5 ≤ s.dn) (hf : f < s.sn) (addr : Nat) (b : List UInt8) (hs : 1 ≤ b.length ∧ b.length ≤ 1024) (ha : addr + costA s.dn (secsA b.length) ≤ s.dn * (s.sn - f)) (hI : Intact s f addr (layA s.dn b) (bgon s addr b.length)) (hg : (bgon s addr b.length).length ≤ 3) :
    Calls Tryz.prog 19 [ptr a, vi addr, vi b.length, .string ⟨(sumB b).toArray⟩].toArray w (Ret fun v w' => (∃ fa fc ba bc, v = .tuple #[.slice fa b.length fc, .slice ba (bgon s addr b.length).length bc, vi 0] ∧ Row (w.heap.size ≤ ·) w' 5 eb fa fc b ∧ Row (w.heap.size ≤ ·) w' 3 ei ba bc (bgon s addr b.length)) ∧ Chg Nob w w') := by
  have hrd := intact_gone h.ok h5 hI hg
  refine (aread_good hB h hu h5 hf addr b.length hs ha ⟨(sumB b).toArray⟩ (sum32 b) hg).mono ?_
  rintro e w' ⟨v, rfl, -, hsome, k⟩
  have hx := hsome [] hrd.1
  rw [hrd.2.1, hrd.2.2] at hx
  obtain ⟨fa, fc, ba, bc, rfl, h1, h2, -⟩ := hx
  exact ⟨_, rfl, ⟨fa, fc, ba, bc, rfl, h1, h2⟩, k⟩
end Go.Proofs.YtggecdldnpildaaGreat
namespace Go.Proofs.YtggecdldnpildaaGreat
open Go.RowKit Go.HL
set_option maxRecDepth 100000

/-! four drives lost: the law -/
def Whole (s : RA) (f a : Nat) (cells : List (List UInt8)) : Prop := ∀ (j : Nat) (c : List UInt8), cells[j]? = some c → goneS s (((a + j) % s.dn : Nat) : Int) = false → heldS s (plN s.dn f (a + j)) = c
theorem Intact.whole {s : RA} {f a : Nat} {cells : List (List UInt8)} (h : Intact s f a cells []) : Whole s f a cells := fun j c hc _ => (h j c hc (by simp)).2
theorem lose_whole {s : RA} (h : s.ok) {f a : Nat} {cells : List (List UInt8)} (hW : Whole s f a cells) {d : Int} (hd : isS s d) : Whole (loseS s d true) f a cells := fun j c hc hg => by
  have hg' : goneS (loseS s d true) (((a + j) % s.dn : Nat) : Int) = false := hg
  rw [loseS_gone h hd true (by omega)] at hg'
  split at hg'
  · cases hg'
  · rename_i hne
    show heldS (loseS s d true) (plN s.dn f (a + j)) = c
    rw [lose_held2 s (q := plN s.dn f (a + j)) hne]
    exact hW j c hc hg'
theorem Whole.intact {s : RA} (h5 : 5 ≤ s.dn) {f a : Nat} {b : List UInt8} (h : Whole s f a (layA s.dn b)) : Intact s f a (layA s.dn b) (bgon s a b.length) := fun j c hc hn => by
  have hj := (List.getElem?_eq_some_iff.1 hc).1
  rw [layA_len _ _ (by omega)] at hj
  have hd := drvA_mem (n := s.dn) (a := a) (cost := costA s.dn (secsA b.length)) (by omega) hj
  have hg : goneS s (((a + j) % s.dn : Nat) : Int) = false := by
    rcases hx : goneS s (((a + j) % s.dn : Nat) : Int) with _ | _
    · rfl
    · exact absurd (List.mem_filter.2 ⟨hd, hx⟩) hn
  exact ⟨hg, h j c hc hg⟩
end Go.Proofs.YtggecdldnpildaaGreat
namespace Go.Proofs.YtggecdldnpildaaGreat
open Go.RowKit Go.HL
set_option maxRecDepth 100000

/-! whichever three drives are lost: the law -/
def fillT (f : Nat) : Nat → List UInt8
  | 0 => List.replicate 128 0
  | i + 1 => (fillT f i).set i (B8 ((f : Int) + (i : Int) * 7))
theorem fillT_len (f i : Nat) : (fillT f i).length = 128 := by
  induction i with
  | zero => simp [fillT]
  | succ i ih => simp [fillT, ih]
theorem tsector_calls (w : World) (f : Nat) (hf : f ≤ 100000) :
    Calls Tryz.prog 32 [vi f].toArray w (Ret fun v w' => (∃ g, v = .slice (some ⟨g, 0, none⟩) (fillT f 128).length 128 ∧ Row (w.heap.size ≤ ·) w' 5 eb (some ⟨g, 0, none⟩) 128 (fillT f 128)) ∧ Chg Nob w w') := by
  have hw := Chg.refl Nob w
  refine Calls.of_WC Tryz.func32 rfl Tryz.ntmps32 (by simp) ?_
  refine WC.seq (WC.region (WL.assign rfl rfl (WL.nil (WX.then_normal (WC.seq (WC.region (?_)))))))
  refine WL.make (e := eb) (0 : UInt8) 128 128 Tryz.underlying26 info_5 rfl rfl rfl ⟨rfl, rfl, Nat.le_refl _⟩ (by constructor <;> omega) rfl ?_
  intro g w3 hm3 k3 z3 eg
  have zs_k3 := k3.size
  replace hw := hw.pure k3
  have hR : Row (· = g) w3 5 eb (some ⟨g, 0, none⟩) 128 (fillT f 0) := ⟨fun a ea => by injection ea with ea; subst ea; rfl, hm3.own⟩
  have hgl : w.heap.size ≤ g := by omega
  have hgl2 : g < w3.heap.size := by omega
  rw [show (List.replicate 128 (0 : UInt8)).length = (fillT f 0).length from by rw [fillT_len, List.length_replicate]]
  refine WL.assign rfl rfl (WL.nil (WX.then_normal (WC.seq (WC.seq (WC.region (WL.assign rfl rfl (WL.nil (?_))))))))
  refine WX.then_normal (WC.block (?_))
  refine WC.loop (σ := Nat) (fun i => [(0, vi f), (3, .slice (some ⟨g, 0, none⟩) (fillT f i).length 128), (4, vi (i : Int))]) (fun i w' => i ≤ 128 ∧ Row (· = g) w' 5 eb (some ⟨g, 0, none⟩) 128 (fillT f i) ∧ Chg Nob w w' ∧ g < w'.heap.size) (fun i => 128 - i) 0 ⟨rfl, rfl, rfl, trivial⟩ ⟨Nat.zero_le _, hR, hw, hgl2⟩ ?_
  clear hR hw hgl2
  rintro i w1 ⟨hi, hR, hw, hgl2⟩
  have hfl := fillT_len f i
  refine WC.seq (WC.seq (WC.region (WL.move rfl rfl (WL.move rfl rfl (WL.len Tryz.underlying26 rfl rfl (?_))))))
  refine WL.lss? rfl rfl rfl (fun h9 => ?_) (fun h9 => ?_)
  ·
    refine WL.nil (WX.then_normal (WC.cond_true rfl (WC.skip (WX.then_normal (WC.seq (WC.block (WC.region (?_))))))))
    refine WL.move rfl rfl (WL.move rfl rfl (WL.move rfl rfl (WL.move rfl rfl (?_))))
    refine WL.mul64 rfl rfl (by constructor <;> omega) rfl ?_
    refine WL.add64 rfl rfl (by constructor <;> omega) rfl ?_
    refine WL.c_i64_u8 Tryz.underlying3 Tryz.underlying5 rfl rfl (?_)
    refine WL.indexC hR.rsl Tryz.underlying26 Tryz.sizeOf5 rfl rfl ⟨List.getElem?_eq_getElem (by omega), rfl⟩ rfl ?_
    refine WL.storeRow (z := B8 ((f : Int) + (i : Int) * 7)) (i) Tryz.sizeOf5 hR rfl rfl rfl (by show 0 + _ * 1 = _; omega) (by omega) rfl ?_
    intro w_1 zs_1 nr_1 k_1
    have zs_k_1 := k_1.size
    replace hw := hw.chg k_1 (by intro x h1 h2; have h3 : _ = _ := h2; exfalso; omega)
    replace hR := nr_1
    refine WL.nil (WX.block_normal (WX.then_normal (WC.region (WL.move rfl rfl (WL.add64 rfl rfl (by omega) rfl (WL.assign rfl rfl (WL.nil (?_))))))))
    exact WX.loop_next (i + 1) ⟨rfl, by simp [List.lookup, ev, fillT_len], rfl, trivial⟩ ⟨by omega, hR, hw, by omega⟩ (by omega)
  ·
    refine WL.nil (WX.then_normal (WC.cond_false rfl (WC.exit (WX.then_exit (WX.then_exit (WX.block_here (WX.then_normal (?_))))))))
    refine WC.seq (WC.region (WL.move rfl rfl (WL.assign rfl rfl (WL.nil (WX.then_normal (WC.ret (?_)))))))
    refine WX.ret1 (.inl rfl) Tryz.results32 rfl ?_
    have e : i = 128 := by omega
    subst e
    exact ⟨_, rfl, ⟨g, rfl, hR.mono (fun y hy => by have h3 : y = g := hy; omega)⟩, hw⟩
theorem crash_gone (s : RA) (ps : List Int) (d : Int) : goneS (crashS s ps) d = goneS s d := rfl
theorem crash_inS (s : RA) (ps : List Int) (d a : Int) : inS (crashS s ps) d a = inS s d a := rfl
set_option maxHeartbeats 4000000 in
theorem awake_calls (w : World) : Calls Tryz.prog 10 [].toArray w (Ret fun v w' => v = .bool true ∧ Chg Nob w w') := by
  have hw := Chg.refl Nob w
  obtain ⟨s0, es0⟩ : ∃ s0, s0 = newS 1 1 := ⟨_, rfl⟩
  have u0 : Up s0 := es0 ▸ newS_up 1 1
  have sd : s0.dn = 1 := by rw [es0]; rfl
  have sn : s0.sn = 1 := by rw [es0]; rfl
  have sw : s0.waits.length = 0 := by rw [es0]; rfl
  have sg : ∀ d, goneS s0 d = false := fun d => by rw [es0]; exact newS_gone 1 1 d
  obtain ⟨B, eB⟩ : ∃ B, B = fillT 3 128 := ⟨_, rfl⟩
  have hBl : B.length = 128 := by rw [eB, fillT_len]
  refine Calls.of_WC Tryz.func10 rfl Tryz.ntmps10 (by simp) ?_
  refine WC.seq (WC.region (WL.assign rfl rfl (WL.nil (WX.then_normal (WC.seq (WC.region (?_)))))))
  refine WL.call eg_13 rfl rfl (New_calls w (dn := 1) (sn := 1) (by decide) (by decide)) ?_
  rintro v w1 ⟨⟨R, rfl, hR⟩, k1⟩
  rw [← es0] at hR
  replace hR := hR.old
  have zs_k1 := k1.size
  replace hw := hw.pure k1
  refine WL.move rfl rfl (WL.extract rfl rfl rfl (WL.extract rfl rfl rfl (WL.assign rfl rfl (WL.assign rfl rfl (WL.nil (WX.then_normal (WC.seq (?_))))))))
  refine WC.seq (WC.region (WL.move rfl rfl (?_)))
  refine WL.neqF rfl rfl rfl (by rfl) ?_
  refine WL.move rfl rfl (WL.want rfl rfl rfl (WL.move rfl rfl (WL.want rfl rfl rfl (?_))))
  refine WL.call eg_32 rfl rfl (tsector_calls _ 3 (by decide)) ?_
  rintro v w2 ⟨⟨g, rfl, hq⟩, k2⟩
  rw [← eB] at hq ⊢
  have zw1 := hw.size
  have zs_k2 := k2.size
  replace hw := hw.pure k2
  replace hR := hR.pure k2
  refine WL.want rfl rfl rfl (?_)
  have hin : inS s0 0 0 := by rw [es0]; exact ⟨by decide, by decide, by decide, by decide⟩
  refine WL.call eg_31 rfl rfl (WriteU (hR.mono (A' := fun y => w.heap.size ≤ y) (fun y hy => by have := hy.1; omega)) (fun y hy => by have h3 : w2.heap.size ≤ y := hy; omega) u0 hin (sg _) hq hBl (by omega)) ?_
  rintro v w3 ⟨rfl, hR3, k3⟩
  replace hw := hw.chg k3 (fun y h1 h2 => by have h3 : w.heap.size ≤ y := h2; omega)
  have u1 := addS_up u0 (0, 0) B
  refine WL.want rfl rfl rfl (?_)
  refine WL.neqF rfl rfl rfl (by rfl) ?_
  refine WL.pickF rfl rfl rfl (WL.move rfl rfl (WL.want rfl rfl rfl (WL.move rfl rfl (WL.want rfl rfl rfl (?_)))))
  refine WL.call eg_23 rfl rfl (FlushU hR3 u1) ?_
  rintro v w4 ⟨rfl, hR4, k4⟩
  replace hw := hw.chg k4 (fun y h1 h2 => by have h3 : w.heap.size ≤ y := h2; omega)
  refine WL.want rfl rfl rfl (?_)
  refine WL.neqF rfl rfl rfl (by rfl) ?_
  refine WL.pickF rfl rfl rfl (WL.nil (WX.then_normal (WC.cond_false rfl (WC.skip (WX.then_normal (WC.seq (WC.region (?_))))))))
  refine WL.move rfl rfl (?_)
  refine WL.call eg_33 rfl rfl (Crash0_calls hR4) ?_
  rintro v w5 ⟨rfl, hR5, k5⟩
  replace hw := hw.chg k5 (fun y h1 h2 => by have h3 : w.heap.size ≤ y := h2; omega)
  obtain ⟨s5, es5⟩ : ∃ s5, s5 = crashS (allS (addS s0 (0, 0) B)) [] := ⟨_, rfl⟩
  have hheld : heldS s5 (0, 0) = B := by rw [es5, crash_held, crash_nil, ← heldS_none (s := allS (addS s0 (0, 0) B)) rfl, allS_held, addS_held, if_pos rfl]
  have u5 : Up s5 := by rw [es5]; exact crash_up _ _
  have g5 : goneS s5 0 = false := by
    rw [es5, crash_gone]
    show goneS s0 0 = false
    exact sg 0
  have i5 : inS s5 0 0 := by
    rw [es5, crash_inS]
    exact hin
  rw [← es5] at hR5
  clear es5
  refine WL.nil (WX.then_normal (WC.seq (WC.region (WL.move rfl rfl (?_)))))
  refine WL.call eg_30 rfl rfl (ReadU hR5 u5 i5 g5) ?_
  rintro v w6 ⟨⟨r, rfl, hrx, hr⟩, k6⟩
  rw [hheld] at hrx
  have zs_k6 := k6.size
  replace hw := hw.pure k6
  replace hR5 := hR5.pure k6
  refine WL.move rfl rfl (WL.extract rfl rfl rfl (WL.extract rfl rfl rfl (WL.assign rfl rfl (WL.assign rfl rfl (WL.nil (WX.then_normal (WC.seq (?_))))))))
  refine WC.draw (Nob) [0, 1, 2, 3, 4] [5, 6, 7, 8, 9] mixed rfl rfl (fun wd_1 kd_1 zd_1 => ?_)
  have zs_kd_1 := kd_1.size
  replace hw := hw.pure kd_1
  replace hR5 := hR5.pure kd_1
  replace hr := hr.pure kd_1
  apply DQ.step (E' := [(4, _)])
  case ho => rfl
  case hs => exact ⟨rfl, trivial⟩
  case hk => rfl
  case h1 =>
    intro wq_3 kq_3
    refine WL.move rfl rfl (?_)
    refine WL.nil ?_
    exact WX.one ⟨rfl, by exact Chg.refl _ _⟩
  apply DQ.step (E' := [(29, _)])
  case ho => rfl
  case hs => exact ⟨rfl, trivial⟩
  case hk => rfl
  case h1 =>
    intro wq_4 kq_4
    refine WL.eqlT rfl rfl rfl (by rfl) ?_
    refine WL.nil ?_
    exact WX.one ⟨rfl, by exact Chg.refl _ _⟩
  apply DQ.step (E' := [(30, _)])
  case ho => rfl
  case hs => exact ⟨rfl, trivial⟩
  case hk => rfl
  case h1 =>
    intro wq_5 kq_5
    refine WL.move rfl rfl (?_)
    refine WL.nil ?_
    exact WX.one ⟨rfl, by exact Chg.refl _ _⟩
  apply DQ.step (E' := [(3, _), (31, _)])
  case ho => rfl
  case hs => exact ⟨rfl, rfl, trivial⟩
  case hk => rfl
  case h1 =>
    intro wq_6 kq_6
    refine WL.want rfl rfl rfl (WL.move rfl rfl (?_))
    refine WL.nil ?_
    exact WX.one ⟨rfl, by exact Chg.refl _ _⟩
  apply DQ.step (E' := [(32, _), (31, _)])
  case ho => rfl
  case hs => exact ⟨rfl, rfl, trivial⟩
  case hk => rfl
  case h1 =>
    intro wq_7 kq_7
    have zs_kq_7 := kq_7.size
    replace hw := hw.pure kq_7
    replace hR5 := hR5.pure kq_7
    replace hr := hr.pure kq_7
    refine WL.want rfl rfl rfl (?_)
    refine WL.toStr Tryz.underlying26 Tryz.underlying5 Tryz.underlying9 hr rfl rfl ?_
    refine WL.nil ?_
    exact WX.one ⟨rfl, by exact Chg.refl _ _⟩
  refine DQ.done (fun hd_2 => ?_)
  refine DL.step [(31, _)] rfl ⟨rfl, trivial⟩ rfl (fun wq_8 kq_8 => ?_)
  have zs_kq_8 := kq_8.size
  replace hw := hw.pure kq_8
  replace hR5 := hR5.pure kq_8
  replace hr := hr.pure kq_8
  replace hd_2 := hd_2.pure kq_8
  refine WL.want rfl rfl rfl (?_)
  refine WL.call eg_32 rfl rfl (tsector_calls _ 3 (by decide)) ?_
  rintro v w7 ⟨⟨g2, rfl, hq2⟩, k7⟩
  rw [← eB] at hq2 ⊢
  have zs_k7 := k7.size
  replace hw := hw.pure k7
  replace hR5 := hR5.pure k7
  replace hr := hr.pure k7
  replace hd_2 := hd_2.pure k7
  refine WL.nil ?_
  refine WX.one ⟨hd_2, ?_⟩
  refine DL.step [(34, _), (31, _)] rfl ⟨rfl, rfl, trivial⟩ rfl (fun wq_9 kq_9 => ?_)
  have zs_kq_9 := kq_9.size
  replace hw := hw.pure kq_9
  replace hR5 := hR5.pure kq_9
  replace hr := hr.pure kq_9
  replace hd_2 := hd_2.pure kq_9
  replace hq2 := hq2.pure kq_9
  refine WL.want rfl rfl rfl (?_)
  refine WL.toStr Tryz.underlying26 Tryz.underlying5 Tryz.underlying9 hq2.rsl rfl rfl ?_
  refine WL.nil ?_
  refine WX.one ⟨hd_2, ?_⟩
  refine DL.step [(33, _), (35, _), (31, _)] rfl ⟨rfl, rfl, rfl, trivial⟩ rfl (fun wq_10 kq_10 => ?_)
  have zs_kq_10 := kq_10.size
  replace hw := hw.pure kq_10
  replace hR5 := hR5.pure kq_10
  replace hr := hr.pure kq_10
  replace hd_2 := hd_2.pure kq_10
  replace hq2 := hq2.pure kq_10
  refine WL.want rfl rfl rfl (?_)
  refine WL.seqlT rfl rfl rfl ((by rw [hrx])) ?_
  refine WL.nil ?_
  refine WX.one ⟨hd_2, ?_⟩
  refine DL.step [(31, _), (36, _)] rfl ⟨rfl, rfl, trivial⟩ rfl (fun wq_11 kq_11 => ?_)
  have zs_kq_11 := kq_11.size
  replace hw := hw.pure kq_11
  replace hR5 := hR5.pure kq_11
  replace hr := hr.pure kq_11
  replace hd_2 := hd_2.pure kq_11
  replace hq2 := hq2.pure kq_11
  refine WL.pickT rfl rfl rfl (?_)
  refine WL.nil ?_
  refine WX.one ⟨hd_2, ?_⟩
  refine DL.step [(37, _)] rfl ⟨rfl, trivial⟩ rfl (fun wq_12 kq_12 => ?_)
  have zs_kq_12 := kq_12.size
  replace hw := hw.pure kq_12
  replace hR5 := hR5.pure kq_12
  replace hr := hr.pure kq_12
  replace hd_2 := hd_2.pure kq_12
  replace hq2 := hq2.pure kq_12
  refine WL.assign rfl rfl (?_)
  refine WL.nil ?_
  refine WX.one ⟨hd_2, ?_⟩
  refine DL.done (fun we_13 ke_13 => ?_)
  have zs_ke_13 := ke_13.size
  replace hw := hw.pure ke_13
  replace hR5 := hR5.pure ke_13
  replace hr := hr.pure ke_13
  replace hd_2 := hd_2.pure ke_13
  replace hq2 := hq2.pure ke_13
  refine WX.then_normal (WC.ret (?_))
  refine WX.ret1 (.inl rfl) Tryz.results10 rfl ?_
  exact ⟨_, rfl, rfl, hw⟩
def cutL (s : ByteArray) (n : Nat) : ByteArray := if s.extract 0 (min s.size n) = ⟨#[]⟩ then ⟨#[120]⟩ else s.extract 0 (min s.size n)
theorem cutL_len (s : ByteArray) {n : Nat} (hn : 1 ≤ n) : 1 ≤ (cutL s n).size ∧ (cutL s n).size ≤ n := by
  unfold cutL
  split
  · exact ⟨by decide, hn⟩
  · rename_i h
    have h1 : (s.extract 0 (min s.size n)).size ≤ n := by rw [ByteArray.size_extract]; omega
    refine ⟨?_, h1⟩
    rcases Nat.eq_zero_or_pos (s.extract 0 (min s.size n)).size with h0 | h0
    · exfalso
      refine h ?_
      apply ByteArray.ext
      exact Array.eq_empty_of_size_eq_zero h0
    · exact h0
theorem cut_calls (w : World) (s : ByteArray) (n : Nat) : Calls Tryz.prog 11 [.string s, vi n].toArray w (Ret fun v w' => v = .string (cutL s n) ∧ Chg Nob w w') := by
  have hw := Chg.refl Nob w
  refine Calls.of_WC Tryz.func11 rfl Tryz.ntmps11 (by simp) ?_
  refine WC.seq (WC.region (WL.assign rfl rfl (WL.nil (WX.then_normal (WC.seq (WC.region (WL.move rfl rfl (?_))))))))
  refine WL.move rfl rfl (WL.lens Tryz.underlying9 rfl rfl (WL.move rfl rfl (?_)))
  refine WL.mini rfl rfl rfl ?_
  rw [show (if (n : Int) < (s.size : Int) then (n : Int) else (s.size : Int)) = ((min s.size n : Nat) : Int) from by split <;> omega]
  refine WL.sslice (l := 0) (h := min s.size n) (k := .i64) Tryz.underlying9 rfl (.inr ⟨rfl, rfl⟩) (.inl rfl) ⟨Nat.zero_le _, by omega⟩ rfl ?_
  refine WL.assign rfl rfl (WL.nil (WX.then_normal (WC.seq (WC.seq (WC.region (WL.move rfl rfl (?_)))))))
  by_cases hs : s.extract 0 (min s.size n) = ⟨#[]⟩
  ·
    refine WL.seqlT rfl rfl rfl (hs) ?_
    refine WL.nil (WX.then_normal (WC.cond_true rfl (WC.seq (WC.region (WL.assign rfl rfl (WL.nil (WX.then_normal (?_))))))))
    refine WC.ret (WX.then_ret (?_))
    refine WX.ret1 (.inl rfl) Tryz.results11 rfl ?_
    exact ⟨_, rfl, by rw [cutL, if_pos hs], hw⟩
  ·
    refine WL.seqlF rfl rfl rfl (hs) ?_
    refine WL.nil (WX.then_normal (WC.cond_false rfl (WC.skip (WX.then_normal (WC.seq (WC.region (WL.move rfl rfl (?_))))))))
    refine WL.assign rfl rfl (WL.nil (WX.then_normal (WC.ret (?_))))
    refine WX.ret1 (.inl rfl) Tryz.results11 rfl ?_
    exact ⟨_, rfl, by rw [cutL, if_neg hs], hw⟩
end Go.Proofs.YtggecdldnpildaaGreat
namespace Go.Proofs.YtggecdldnpildaaGreat
open Go.RowKit Go.HL
set_option maxRecDepth 100000

/-! a block is read as it was written, whichever three drives are lost: the law -/
set_option maxHeartbeats 8000000 in
theorem hoardErasures_calls {w : World} (da : ByteArray) (dr ad : Int) :
    Calls Tryz.prog 3 [.string da, vi dr, vi ad].toArray w (Ret fun v w' => v = .bool true ∧ Chg Nob w w') := by
  have hw := Chg.refl Nob w
  obtain ⟨k, hk⟩ : ∃ k, k = (B64 dr % 4).toNat := ⟨_, rfl⟩
  have hk4 : k < 4 := by rw [hk, UInt64.toNat_mod]; exact Nat.mod_lt _ (by decide)
  obtain ⟨n, hn⟩ : ∃ n, n = 5 + k := ⟨_, rfl⟩
  obtain ⟨dat, hdat⟩ : ∃ dat, dat = cutL da 700 := ⟨_, rfl⟩
  have hdl := cutL_len da (n := 700) (by decide)
  rw [← hdat] at hdl
  obtain ⟨b, hb⟩ : ∃ b, b = dat.data.toList := ⟨_, rfl⟩
  have hbl : b.length = dat.size := by rw [hb, Array.length_toList]; rfl
  obtain ⟨s0, es0⟩ : ∃ s0, s0 = newS n 8 := ⟨_, rfl⟩
  have u0 : Up s0 := es0 ▸ newS_up n 8
  have sd : s0.dn = n := by rw [es0]; rfl
  have sn : s0.sn = 8 := by rw [es0]; rfl
  have sw : s0.waits.length = 0 := by rw [es0]; rfl
  have sg : ∀ d, goneS s0 d = false := fun d => by rw [es0]; exact newS_gone n 8 d
  have h8 := secsA_le (size := dat.size) (by omega)
  have hci := costA_is (n := n) (by omega) h8
  obtain ⟨c, hc⟩ : ∃ c, c = costA n (secsA dat.size) := ⟨_, rfl⟩
  rw [← hc] at hci
  obtain ⟨m, hm⟩ : ∃ m, m = n * 7 - c + 1 := ⟨_, rfl⟩
  have hB64 : (B64 (m : Int)).toNat = m := B64_nat (by omega)
  obtain ⟨addr, haddr⟩ : ∃ a, a = (B64 ad % B64 (m : Int)).toNat := ⟨_, rfl⟩
  have hatm : addr < m := by rw [haddr, UInt64.toNat_mod, hB64]; exact Nat.mod_lt _ (by omega)
  refine Calls.of_WC Tryz.func3 rfl Tryz.ntmps3 (by simp) ?_
  refine WC.seq (WC.region (WL.assign rfl rfl (WL.nil (WX.then_normal (WC.seq (WC.seq (WC.region (?_))))))))
  refine WL.call eg_10 rfl rfl (awake_calls _) ?_
  rintro v w1 ⟨rfl, k1⟩
  have zs_k1 := k1.size
  replace hw := hw.pure k1
  refine WL.not rfl rfl (WL.nil (WX.then_normal (WC.cond_false rfl (WC.skip (WX.then_normal (WC.seq (WC.region (?_))))))))
  refine WL.move rfl rfl (WL.c_i64_u64 Tryz.underlying3 Tryz.underlying23 rfl rfl (WL.num rfl rfl (n_rem64 _ _ _ 4 (by decide)) rfl (?_)))
  refine WL.c_u64_i64s (n := k) Tryz.underlying23 Tryz.underlying3 rfl ⟨hk.symm, by omega⟩ rfl ?_
  refine WL.add64 rfl rfl (by constructor <;> omega) rfl ?_
  rw [show (5 : Int) + (k : Int) = (n : Int) from by omega]
  refine WL.assign rfl rfl (WL.nil (WX.then_normal (WC.seq (WC.region (WL.move rfl rfl (?_))))))
  refine WL.call eg_11 rfl rfl (cut_calls _ da 700) ?_
  rintro v w2 ⟨rfl, k2⟩
  rw [← hdat]
  have zs_k2 := k2.size
  replace hw := hw.pure k2
  refine WL.assign rfl rfl (WL.nil (WX.then_normal (WC.seq (WC.region (WL.move rfl rfl (?_))))))
  refine WL.toBytes Tryz.underlying9 Tryz.underlying26 Tryz.underlying5 rfl (by omega) rfl ?_
  intro a_hq c_hq w_hq hq k_hq z_hq
  have zs_k_hq := k_hq.size
  replace hw := hw.pure k_hq
  rw [← hb] at hq ⊢
  refine WL.call eg_12 rfl rfl (sum_calls hq.rsl (by omega)) ?_
  rintro v w3 ⟨rfl, k3⟩
  have zs_k3 := k3.size
  replace hw := hw.pure k3
  replace hq := hq.pure k3
  refine WL.assign rfl rfl (WL.nil (WX.then_normal (WC.seq (WC.seq (WC.region (WL.assign rfl rfl (WL.nil (?_))))))))
  refine WX.then_normal (WC.block (?_))
  have zw3 := hw.size
  refine WC.loop (σ := Nat) (fun x => [(0, .string dat), (2, vi ad), (7, vi (n : Int)), (8, .string ⟨(sumB b).toArray⟩), (9, vi (x : Int))]) (fun x w' => x ≤ n ∧ Chg Nob w w') (fun x => n - x) 0 ⟨rfl, rfl, rfl, rfl, rfl, trivial⟩ ⟨Nat.zero_le _, hw⟩ ?_
  clear hw
  rintro x w4 ⟨hx, hw⟩
  refine WC.seq (WC.seq (WC.region (WL.move rfl rfl (WL.move rfl rfl (?_)))))
  refine WL.lss? rfl rfl rfl (fun h36 => ?_) (fun h36 => ?_)
  ·
    refine WL.nil (WX.then_normal (WC.cond_true rfl (WC.skip (WX.then_normal (WC.seq (WC.block (WC.seq (?_))))))))
    refine WC.region (WL.move rfl rfl (?_))
    refine WL.add64 rfl rfl (by constructor <;> omega) rfl ?_
    refine WL.assign rfl rfl (WL.nil (WX.then_normal (WC.block (?_))))
    refine WC.loop (σ := Nat) (fun y => [(0, .string dat), (2, vi ad), (7, vi (n : Int)), (8, .string ⟨(sumB b).toArray⟩), (9, vi (x : Int)), (10, vi ((x : Int) + 1 + (y : Int)))]) (fun y w' => x + 1 + y ≤ n ∧ Chg Nob w w') (fun y => n - y) 0 ⟨rfl, rfl, rfl, rfl, rfl, by simp [List.lookup, ev], trivial⟩ ⟨by omega, hw⟩ ?_
    clear hw
    rintro y w5 ⟨hy, hw⟩
    refine WC.seq (WC.seq (WC.region (WL.move rfl rfl (WL.move rfl rfl (?_)))))
    refine WL.lss? rfl rfl rfl (fun h43 => ?_) (fun h43 => ?_)
    ·
      refine WL.nil (WX.then_normal (WC.cond_true rfl (WC.skip (WX.then_normal (WC.seq (WC.block (WC.seq (?_))))))))
      refine WC.region (WL.move rfl rfl (?_))
      refine WL.add64 rfl rfl (by constructor <;> omega) rfl ?_
      refine WL.assign rfl rfl (WL.nil (WX.then_normal (WC.block (?_))))
      refine WC.loop (σ := Nat) (fun z => [(0, .string dat), (2, vi ad), (7, vi (n : Int)), (8, .string ⟨(sumB b).toArray⟩), (9, vi (x : Int)), (10, vi ((x : Int) + 1 + (y : Int))), (11, vi ((x : Int) + 1 + (y : Int) + 1 + (z : Int)))]) (fun z w' => x + 1 + y + 1 + z ≤ n ∧ Chg Nob w w') (fun z => n - z) 0 ⟨rfl, rfl, rfl, rfl, rfl, rfl, by simp [List.lookup, ev], trivial⟩ ⟨by omega, hw⟩ ?_
      clear hw
      rintro z w6 ⟨hz, hw⟩
      have zw6 := hw.size
      obtain ⟨d2, hd2⟩ : ∃ d2, d2 = (x : Int) + 1 + (y : Int) := ⟨_, rfl⟩
      obtain ⟨d3, hd3⟩ : ∃ d3, d3 = (x : Int) + 1 + (y : Int) + 1 + (z : Int) := ⟨_, rfl⟩
      refine WC.seq (WC.seq (WC.region (WL.move rfl rfl (WL.move rfl rfl (?_)))))
      refine WL.lss? rfl rfl rfl (fun h50 => ?_) (fun h50 => ?_)
      ·
        refine WL.nil (WX.then_normal (WC.cond_true rfl (WC.skip (WX.then_normal (WC.seq (WC.block (WC.seq (?_))))))))
        refine WC.region (WL.move rfl rfl (?_))
        refine WL.call eg_13 rfl rfl (New_calls _ (dn := n) (sn := 8) (by omega) (by decide)) ?_
        rintro v w7 ⟨⟨R, rfl, hR⟩, k7⟩
        rw [← es0] at hR
        replace hR := (hR.mono (A' := fun y => w6.heap.size ≤ y) (fun y hy => by have h3 : w6.heap.size ≤ y := hy; omega)).old
        have zs_k7 := k7.size
        replace hw := hw.pure k7
        refine WL.move rfl rfl (WL.extract rfl rfl rfl (WL.extract rfl rfl rfl (WL.assign rfl rfl (WL.assign rfl rfl (WL.nil (WX.then_normal (WC.seq (?_))))))))
        refine WC.region (WL.move rfl rfl (?_))
        refine WL.call eg_14 rfl rfl (anew_calls hR 1 (by omega) (by omega)) ?_
        rintro v w8 ⟨⟨a, rfl, hBa, hage⟩, k8⟩
        rw [sd] at hBa
        have zw8 := k8.size
        have zs_k8 := k8.size
        replace hw := hw.pure k8
        replace hR := hR.pure k8
        refine WL.move rfl rfl (WL.extract rfl rfl rfl (WL.extract rfl rfl rfl (WL.assign rfl rfl (WL.assign rfl rfl (WL.nil (WX.then_normal (WC.seq (?_))))))))
        refine WC.region (WL.move rfl rfl (WL.move rfl rfl (WL.lens Tryz.underlying9 rfl rfl (?_))))
        refine WL.call eg_15 rfl rfl (cost_good hBa (by omega) dat.size (by omega)) ?_
        rintro v w9 ⟨rfl, k9⟩
        rw [← hc]
        have zs_k9 := k9.size
        replace hw := hw.pure k9
        replace hR := hR.pure k9
        replace hBa := hBa.pure k9
        refine WL.move rfl rfl (WL.extract rfl rfl rfl (WL.extract rfl rfl rfl (WL.assign rfl rfl (WL.assign rfl rfl (WL.nil (WX.then_normal (WC.seq (?_))))))))
        refine WC.seq (WC.region (WL.move rfl rfl (?_)))
        refine WL.neqF rfl rfl rfl (by rfl) ?_
        refine WL.move rfl rfl (WL.want rfl rfl rfl (WL.move rfl rfl (WL.want rfl rfl rfl (?_))))
        refine WL.neqF rfl rfl rfl (by rfl) ?_
        refine WL.pickF rfl rfl rfl (WL.move rfl rfl (WL.want rfl rfl rfl (WL.move rfl rfl (WL.want rfl rfl rfl (?_)))))
        refine WL.neqF rfl rfl rfl (by rfl) ?_
        refine WL.pickF rfl rfl rfl (WL.nil (WX.then_normal (WC.cond_false rfl (WC.skip (WX.then_normal (WC.seq (WC.region (?_))))))))
        refine WL.move rfl rfl (WL.c_i64_u64 Tryz.underlying3 Tryz.underlying23 rfl rfl (WL.move rfl rfl (?_)))
        refine WL.call eg_16 rfl rfl (Cells_calls (s := s0) (by rw [sd]; exact hBa) hR (by omega)) ?_
        rintro v w10 ⟨rfl, k10⟩
        rw [show s0.dn * (s0.sn - 1) = n * 7 from by rw [sd, sn]]
        have zs_k10 := k10.size
        replace hw := hw.pure k10
        replace hR := hR.pure k10
        replace hBa := hBa.pure k10
        refine WL.move rfl rfl (?_)
        refine WL.sub64 rfl rfl (by constructor <;> omega) rfl ?_
        refine WL.add64 rfl rfl (by constructor <;> omega) rfl ?_
        rw [show ((n * 7 : Nat) : Int) - (c : Int) + 1 = (m : Int) from by omega]
        refine WL.c_i64_u64 Tryz.underlying3 Tryz.underlying23 rfl rfl (?_)
        refine WL.num rfl rfl (n_rem64 _ _ _ _ (by rw [hB64]; omega)) rfl ?_
        refine WL.c_u64_i64s (n := addr) Tryz.underlying23 Tryz.underlying3 rfl ⟨haddr.symm, by omega⟩ rfl ?_
        refine WL.assign rfl rfl (WL.nil (WX.then_normal (WC.seq (WC.seq (WC.region (WL.move rfl rfl (WL.move rfl rfl (?_))))))))
        refine WL.move rfl rfl (?_)
        have zw10 := hw.size
        have l10 := hBa.lt
        refine WL.toBytes Tryz.underlying9 Tryz.underlying26 Tryz.underlying5 rfl (by omega) rfl ?_
        intro a_hq2 c_hq2 w_hq2 hq2 k_hq2 z_hq2
        have zs_k_hq2 := k_hq2.size
        replace hw := hw.pure k_hq2
        replace hR := hR.pure k_hq2
        replace hBa := hBa.pure k_hq2
        rw [← hb] at hq2 ⊢
        have l11 := hBa.lt
        have zw11 := hw.size
        refine WL.call eg_17 rfl rfl (awrite_good (s := s0) (by rw [sd]; exact hBa) (fun h => by have := h.2; omega) hR (fun y hy => by have h9 := hy.2; have := k8.size; omega) u0 (by omega) (by omega) addr hq2.rsl (by omega) (by rw [sd, sn, hbl, ← hc]; omega) (by omega) (by rw [bgon_none sg]; decide)) ?_
        rintro v w12 ⟨rfl, hR9, k12⟩
        have z12 := k12.size
        replace hBa := hBa.chg k12 (fun h => by have := h.2; omega)
        replace hw := hw.chg k12 (fun y h1 h2 => by have h3 : w6.heap.size ≤ y := h2.1; omega)
        rw [sd] at hR9
        have hI := wrT_intact s0 1 addr (layA n b) (bad := []) (fun c h1 h2 hg => by rw [sg] at hg; cases hg)
        obtain ⟨d1, n1, -, -⟩ := wrT_dn s0 1 addr (layA n b) (layA n b).length
        have u1 := wrT_up u0 1 addr (layA n b) (layA n b).length
        have g1 : ∀ d, goneS (wrT s0 1 addr (layA n b) (layA n b).length) d = false := fun d => by rw [wrT_gone]; exact sg d
        obtain ⟨s1, es1⟩ : ∃ s1, s1 = wrT s0 1 addr (layA n b) (layA n b).length := ⟨_, rfl⟩
        rw [← es1] at hI hR9 d1 n1 u1 g1
        clear es1
        have hW1 := hI.whole
        rw [sd] at d1
        rw [sn] at n1
        have hAlo : ∀ y, ((w6.heap.size ≤ y ∧ y < w7.heap.size) ∨ w_hq2.heap.size ≤ y) → w6.heap.size ≤ y ∧ y ≠ a := fun y h => by rcases h with h | h <;> omega
        refine WL.neqF rfl rfl rfl (by rfl) ?_
        refine WL.move rfl rfl (WL.want rfl rfl rfl (WL.move rfl rfl (WL.want rfl rfl rfl (WL.move rfl rfl (WL.want rfl rfl rfl (?_))))))
        have ok1 := hR9.ok
        have jx : isS s1 (x : Int) := ⟨by omega, by rw [d1]; omega⟩
        refine WL.call eg_18 rfl rfl (LoseU hR9 jx) ?_
        rintro v w13 ⟨rfl, hR13, k13⟩
        replace hBa := hBa.chg k13 (fun h => (hAlo _ h).2 rfl)
        replace hw := hw.chg k13 (fun y h1 h2 => by have := (hAlo y h2).1; omega)
        have hW2 := lose_whole ok1 hW1 jx
        refine WL.want rfl rfl rfl (?_)
        refine WL.neqF rfl rfl rfl (by rfl) ?_
        refine WL.pickF rfl rfl rfl (WL.move rfl rfl (WL.want rfl rfl rfl (WL.move rfl rfl (WL.want rfl rfl rfl (WL.move rfl rfl (WL.want rfl rfl rfl (?_)))))))
        have ok2 := hR13.ok
        have jy : isS (loseS s1 (x : Int) true) ((x : Int) + 1 + (y : Int)) := ⟨by omega, by show _ < (s1.dn : Int); rw [d1]; omega⟩
        refine WL.call eg_18 rfl rfl (LoseU hR13 jy) ?_
        rintro v w14 ⟨rfl, hR14, k14⟩
        replace hBa := hBa.chg k14 (fun h => (hAlo _ h).2 rfl)
        replace hw := hw.chg k14 (fun y h1 h2 => by have := (hAlo y h2).1; omega)
        have hW3 := lose_whole ok2 hW2 jy
        refine WL.want rfl rfl rfl (?_)
        refine WL.neqF rfl rfl rfl (by rfl) ?_
        refine WL.pickF rfl rfl rfl (WL.move rfl rfl (WL.want rfl rfl rfl (WL.move rfl rfl (WL.want rfl rfl rfl (WL.move rfl rfl (WL.want rfl rfl rfl (?_)))))))
        have ok3 := hR14.ok
        have jz : isS (loseS (loseS s1 (x : Int) true) ((x : Int) + 1 + (y : Int)) true) ((x : Int) + 1 + (y : Int) + 1 + (z : Int)) := ⟨by omega, by show _ < (s1.dn : Int); rw [d1]; omega⟩
        refine WL.call eg_18 rfl rfl (LoseU hR14 jz) ?_
        rintro v w15 ⟨rfl, hR15, k15⟩
        replace hBa := hBa.chg k15 (fun h => (hAlo _ h).2 rfl)
        replace hw := hw.chg k15 (fun y h1 h2 => by have := (hAlo y h2).1; omega)
        have hW4 := lose_whole ok3 hW3 jz
        have hgg : ∀ d : Int, 0 ≤ d → goneS (loseS (loseS (loseS s1 (x : Int) true) ((x : Int) + 1 + (y : Int)) true) ((x : Int) + 1 + (y : Int) + 1 + (z : Int)) true) d = true → d ∈ [(x : Int), d2, d3] := fun d h0 hg => by
          rw [loseS_gone ok3 jz true h0, loseS_gone ok2 jy true h0, loseS_gone ok1 jx true h0, g1 d] at hg
          by_cases e3 : d = (x : Int) + 1 + (y : Int) + 1 + (z : Int)
          ·
            simp [hd3, e3]
          ·
            rw [if_neg e3] at hg
            by_cases e2 : d = (x : Int) + 1 + (y : Int)
            ·
              simp [hd2, e2]
            ·
              rw [if_neg e2] at hg
              by_cases e1 : d = (x : Int)
              ·
                simp [e1]
              ·
                rw [if_neg e1] at hg
                cases hg
        have d4 : (loseS (loseS (loseS s1 (x : Int) true) ((x : Int) + 1 + (y : Int)) true) ((x : Int) + 1 + (y : Int) + 1 + (z : Int)) true).dn = n := d1
        have n4 : (loseS (loseS (loseS s1 (x : Int) true) ((x : Int) + 1 + (y : Int)) true) ((x : Int) + 1 + (y : Int) + 1 + (z : Int)) true).sn = 8 := n1
        have u4 := loseS_up (loseS_up (loseS_up u1 (x : Int) true) ((x : Int) + 1 + (y : Int)) true) ((x : Int) + 1 + (y : Int) + 1 + (z : Int)) true
        obtain ⟨s4, es4⟩ : ∃ s4, s4 = loseS (loseS (loseS s1 (x : Int) true) ((x : Int) + 1 + (y : Int)) true) ((x : Int) + 1 + (y : Int) + 1 + (z : Int)) true := ⟨_, rfl⟩
        rw [← es4] at hR15 hW4 hgg d4 n4 u4
        clear es4
        have hgl : (bgon s4 addr b.length).length ≤ 3 := nodup_le _ [(x : Int), d2, d3] (List.Pairwise.filter _ drvA_nodup) (fun d hd => by
          have h9 := List.mem_filter.1 hd
          have h10 := bdrv_in (s := s4) (by omega) d h9.1
          exact hgg d h10.1 h9.2)
        refine WL.want rfl rfl rfl (?_)
        refine WL.neqF rfl rfl rfl (by rfl) ?_
        refine WL.pickF rfl rfl rfl (WL.nil (WX.then_normal (WC.cond_false rfl (WC.skip (WX.then_normal (WC.seq (WC.region (?_))))))))
        refine WL.move rfl rfl (WL.move rfl rfl (WL.move rfl rfl (WL.lens Tryz.underlying9 rfl rfl (WL.move rfl rfl (?_)))))
        have hcl := aread_gone (by rw [d4]; exact hBa) hR15 u4 (by omega) (by omega) addr b (by omega) (by rw [d4, n4, hbl, ← hc]; omega) (Whole.intact (by omega) (by rw [d4]; exact hW4)) hgl
        rw [show ((b.length : Nat) : Int) = (dat.size : Int) from by rw [hbl]] at hcl
        refine WL.call eg_19 rfl rfl (hcl) ?_
        rintro v w16 ⟨⟨fa, fc, ba, bc, rfl, hB1, hb1⟩, k16⟩
        have zs_k16 := k16.size
        replace hw := hw.pure k16
        replace hBa := hBa.pure k16
        replace hR15 := hR15.pure k16
        refine WL.move rfl rfl (WL.extract rfl rfl rfl (WL.extract rfl rfl rfl (WL.extract rfl rfl rfl (WL.assign rfl rfl (WL.assign rfl rfl (WL.assign rfl rfl (WL.nil (?_))))))))
        refine WX.then_normal (WC.seq (WC.region (WL.move rfl rfl (?_))))
        refine WL.neqF rfl rfl rfl (by rfl) ?_
        refine WL.move rfl rfl (WL.want rfl rfl rfl (WL.move rfl rfl (WL.want rfl rfl rfl (?_))))
        refine WL.toStr Tryz.underlying26 Tryz.underlying5 Tryz.underlying9 hB1.rsl rfl rfl ?_
        refine WL.want rfl rfl rfl (WL.move rfl rfl (WL.want rfl rfl rfl (?_)))
        refine WL.sneqF rfl rfl rfl ((by rw [hb])) ?_
        refine WL.pickF rfl rfl rfl (WL.move rfl rfl (WL.want rfl rfl rfl (WL.move rfl rfl (WL.want rfl rfl rfl (WL.len Tryz.underlying39 rfl rfl (WL.want rfl rfl rfl (?_)))))))
        refine WL.gtrF rfl rfl rfl ((by omega)) ?_
        refine WL.pickF rfl rfl rfl (WL.nil (WX.then_normal (WC.cond_false rfl (WC.skip (WX.block_normal (WX.then_normal (WC.region (?_))))))))
        refine WL.move rfl rfl (?_)
        refine WL.add64 rfl rfl (by constructor <;> omega) rfl ?_
        refine WL.assign rfl rfl (WL.nil (?_))
        exact WX.loop_next (z + 1) ⟨rfl, rfl, rfl, rfl, rfl, rfl, by simp [List.lookup, ev]; omega, trivial⟩ ⟨by omega, hw⟩ (by omega)
      ·
        refine WL.nil (WX.then_normal (WC.cond_false rfl (WC.exit (WX.then_exit (WX.then_exit (WX.block_here (WX.block_normal (?_))))))))
        refine WX.then_normal (WC.region (WL.move rfl rfl (?_)))
        refine WL.add64 rfl rfl (by constructor <;> omega) rfl ?_
        refine WL.assign rfl rfl (WL.nil (?_))
        exact WX.loop_next (y + 1) ⟨rfl, rfl, rfl, rfl, rfl, by simp [List.lookup, ev]; omega, trivial⟩ ⟨by omega, hw⟩ (by omega)
    ·
      refine WL.nil (WX.then_normal (WC.cond_false rfl (WC.exit (WX.then_exit (WX.then_exit (WX.block_here (WX.block_normal (?_))))))))
      refine WX.then_normal (WC.region (WL.move rfl rfl (?_)))
      refine WL.add64 rfl rfl (by constructor <;> omega) rfl ?_
      refine WL.assign rfl rfl (WL.nil (?_))
      exact WX.loop_next (x + 1) ⟨rfl, rfl, rfl, rfl, by simp [List.lookup, ev], trivial⟩ ⟨by omega, hw⟩ (by omega)
  ·
    refine WL.nil (WX.then_normal (WC.cond_false rfl (WC.exit (WX.then_exit (WX.then_exit (WX.block_here (WX.then_normal (?_))))))))
    refine WC.seq (WC.region (WL.assign rfl rfl (WL.nil (WX.then_normal (WC.ret (?_))))))
    refine WX.ret1 (.inl rfl) Tryz.results3 rfl ?_
    exact ⟨_, rfl, rfl, hw⟩
end Go.Proofs.YtggecdldnpildaaGreat
