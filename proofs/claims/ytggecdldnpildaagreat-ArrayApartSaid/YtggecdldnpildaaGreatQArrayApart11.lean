import Derived.Test.YtggecdldnpildaaGreatQArrayApart10
namespace Go.Proofs.YtggecdldnpildaaGreat
open Go.RowKit Go.HL
set_option maxRecDepth 100000

/-! a block is read -/
theorem kR_abs (l : List Stp) : kR l = ((l.map Stp.abs).map fun p => p.1.length - 3).sum := by
  rw [kR, List.map_map]
  congr 1
  refine List.map_congr_left (fun s _ => ?_)
  simp [Stp.abs]
theorem kR_str {s : RA} {f addr size : Nat} {l : List Stp} (h5 : 5 ≤ s.dn) (h : l.map Stp.abs = strA s f addr size) : kR l = secsA size := by
  rw [kR_abs, h, strA, List.map_map]
  have e : ((fun p : List (List UInt8) × List Int => p.1.length - 3) ∘ stpA s f) = fun r : Nat × Nat => r.2 := by
    funext r
    show (stpA s f r).1.length - 3 = r.2
    rw [(stpA_len s f r).1]
    omega
  rw [e]
  exact datR_rows (by omega) _ _
theorem str_ok {s : RA} (hok : s.ok) (h5 : 5 ≤ s.dn) {f addr size : Nat} {l : List Stp} (h : l.map Stp.abs = strA s f addr size) {out : List Int} (ho : (bgon s addr size).length + out.length ≤ 3) : ∀ st ∈ l, OkCol st.abs.1 st.abs.2 (srt (bgon s addr size ++ out)) := by
  intro st hst
  have h1 : st.abs ∈ strA s f addr size := by rw [← h]; exact List.mem_map.2 ⟨st, hst, rfl⟩
  rw [strA, List.mem_map] at h1
  obtain ⟨r, hr, e⟩ := h1
  rw [← e]
  have hm := rowsA_mem (n := s.dn) (by omega) _ _ _ hr
  rw [sumR_rows (by omega) _ _ 0] at hm
  refine stpA_ok hok ⟨hm.1.1, hm.1.2.1⟩ (by rw [srt_len, List.length_append]; exact ho) (fun c h1 h2 hg => ?_)
  rw [srt_mem, List.mem_append]
  refine .inl (gonA_cov (s := s) (a := addr) (cost := costA s.dn (secsA size)) (by omega) c (by omega) ?_ hg)
  show c < addr + sumR (rowsA s.dn 0 (secsA size))
  omega
set_option maxHeartbeats 8000000 in
theorem aread_good {A : Nat → Prop} {w : World} {a R f : Nat} {s : RA} (hB : AB w a R s.dn f) (h : RK A w R s) (hu : Up s) (h5 : 5 ≤ s.dn) (hf : f < s.sn) (addr size : Nat) (hs : 1 ≤ size ∧ size ≤ 1024) (ha : addr + costA s.dn (secsA size) ≤ s.dn * (s.sn - f)) (sum : ByteArray) (hsum : sum.size = 32) (hg : (bgon s addr size).length ≤ 3) :
    Calls Tryz.prog 19 [ptr a, vi addr, vi size, .string sum].toArray w (Ret fun v w' => (rdA s f addr size sum = none → v = .tuple #[.slice none 0 0, .slice none 0 0, vi 4]) ∧ (∀ t, rdA s f addr size sum = some t → ∃ fa fc ba bc, v = .tuple #[.slice fa (bytA s f addr size (srt (bgon s addr size ++ t))).length fc, .slice ba (srt (bgon s addr size ++ t)).length bc, vi 0] ∧ Row (w.heap.size ≤ ·) w' 5 eb fa fc (bytA s f addr size (srt (bgon s addr size ++ t))) ∧ Row (w.heap.size ≤ ·) w' 3 ei ba bc (srt (bgon s addr size ++ t)) ∧ (bytA s f addr size (srt (bgon s addr size ++ t))).length = size) ∧ Chg Nob w w') := by
  have hw := Chg.refl Nob w
  have la := hB.lt
  have hok := h.ok
  have hdn := h.ok.dn
  replace h := h.old
  refine Calls.of_WC Tryz.func19 rfl Tryz.ntmps19 (by simp) ?_
  refine WC.seq (WC.region (?_))
  refine WL.box rfl rfl ?_
  intro g3 w3 hge3 hlt3 hb3 k3
  have zs_k3 := k3.size
  replace hB := hB.pure k3
  replace h := h.pure k3
  replace hw := hw.pure k3
  refine WL.box rfl rfl ?_
  intro g4 w4 hge4 hlt4 hb4 k4
  have zs_k4 := k4.size
  replace hB := hB.pure k4
  replace h := h.pure k4
  replace hw := hw.pure k4
  replace hb3 := hb3.pure k4
  refine WL.assign rfl rfl (WL.assign rfl rfl (WL.assign rfl rfl (WL.nil (WX.then_normal (WC.seq (WC.region (WL.move rfl rfl (?_))))))))
  refine WL.move rfl rfl (WL.loadB Tryz.isAgg3 hb3 rfl rfl rfl (?_))
  refine WL.call eg_21 rfl rfl (drives_good hB h h5 hf addr size hs ha) ?_
  rintro v w5 ⟨⟨da, dc, rfl, hD⟩, k5⟩
  have zw4 := hw.size
  have zs_k5 := k5.size
  replace hB := hB.pure k5
  replace h := h.pure k5
  replace hw := hw.pure k5
  replace hb3 := hb3.pure k5
  replace hb4 := hb4.pure k5
  replace hD := hD.lt
  refine WL.move rfl rfl (WL.extract rfl rfl rfl (WL.extract rfl rfl rfl (WL.assign rfl rfl (WL.assign rfl rfl (WL.nil (WX.then_normal (WC.seq (?_))))))))
  refine WC.seq (WC.region (WL.move rfl rfl (?_)))
  refine WL.neqF rfl rfl rfl (by rfl) ?_
  refine WL.move rfl rfl (WL.want rfl rfl rfl (WL.loadB Tryz.isAgg9 hb4 rfl rfl rfl (WL.want rfl rfl rfl (WL.lens Tryz.underlying9 rfl rfl (WL.want rfl rfl rfl (?_))))))
  refine WL.neqF rfl rfl rfl (by omega) ?_
  refine WL.pickF rfl rfl rfl (WL.nil (WX.then_normal (WC.cond_false rfl (WC.skip (WX.then_normal (WC.seq (WC.region (?_))))))))
  refine WL.move rfl rfl (WL.move rfl rfl (?_))
  have zw5 := hw.size
  obtain ⟨G, hG⟩ : ∃ G, G = bgon s addr size := ⟨_, rfl⟩
  refine WL.call eg_40 rfl rfl (gone_calls hB h hD.rsl (bdrv_in h5) (Nat.le_trans (bdrv_len hdn.2) (by decide))) ?_
  rintro v w6 ⟨hgood, _, k6⟩
  obtain ⟨ga, gc, rfl, hGr⟩ := hgood hg
  have l3 := hb3.lt
  have l4 := hb4.lt
  have zs_k6 := k6.size
  replace hB := hB.pure k6
  replace h := h.pure k6
  replace hw := hw.pure k6
  replace hb3 := hb3.pure k6
  replace hb4 := hb4.pure k6
  replace hD := hD.pure k6
  replace hGr := hGr.lt
  refine WL.move rfl rfl (WL.extract rfl rfl rfl (WL.extract rfl rfl rfl (?_)))
  refine WL.alloc Tryz.zeroValue39 rfl ?_
  intro g1 w7 hge1 hlt1 hb1 k7
  have zs_k7 := k7.size
  replace hB := hB.pure k7
  replace h := h.pure k7
  replace hw := hw.pure k7
  replace hb3 := hb3.pure k7
  replace hb4 := hb4.pure k7
  replace hD := hD.pure k7
  replace hGr := hGr.pure k7
  refine WL.store Tryz.sizeOf39 hb1 rfl rfl rfl rfl ?_
  intro w_1 hs_1 hn_1 k_1
  have zs_k_1 := k_1.size
  replace hB := hB.chg k_1 (by intro h1; have h2 : _ = _ := h1; exfalso; omega)
  replace h := h.chg k_1 (by intro b h1 h2 h3; have h4 : _ = _ := h3; (try dsimp only at h2); exfalso; omega)
  replace hw := hw.chg k_1 (by intro x h1 h2; have h3 : _ = _ := h2; exfalso; omega)
  replace hb3 := hb3.chg k_1 (by intro h1; have h2 : _ = _ := h1; exfalso; omega)
  replace hb4 := hb4.chg k_1 (by intro h1; have h2 : _ = _ := h1; exfalso; omega)
  replace hD := hD.chg k_1 (by intro b h1 h2 h3; have h4 : _ = _ := h3; (try dsimp only at h2); exfalso; omega)
  replace hGr := hGr.chg k_1 (by intro b h1 h2 h3; have h4 : _ = _ := h3; (try dsimp only at h2); exfalso; omega)
  replace hb1 := hn_1
  refine WL.assign rfl rfl (WL.nil (WX.then_normal (WC.seq (WC.seq (WC.region (WL.move rfl rfl (?_)))))))
  refine WL.neqF rfl rfl rfl (by rfl) ?_
  refine WL.nil (WX.then_normal (WC.cond_false rfl (WC.skip (WX.then_normal (WC.seq (WC.region (WL.move rfl rfl (?_))))))))
  refine WL.move rfl rfl (WL.loadB Tryz.isAgg3 hb3 rfl rfl rfl (?_))
  have zw7 := hw.size
  refine WL.call eg_45 rfl rfl (stripes_calls hB h hu h5 hf addr size hs ha) ?_
  rintro v w8 ⟨⟨la2, lc, l, rfl, hOr, hI, habs⟩, k8⟩
  have z8 := k8.size
  have zs_k8 := k8.size
  replace hB := hB.pure k8
  replace h := h.pure k8
  replace hw := hw.pure k8
  replace hb3 := hb3.pure k8
  replace hb4 := hb4.pure k8
  replace hD := hD.pure k8
  replace hGr := hGr.pure k8
  replace hb1 := hb1.pure k8
  have hO := hOr.rsk.low
  clear hOr
  replace hI := hI.low
  refine WL.move rfl rfl (WL.extract rfl rfl rfl (WL.extract rfl rfl rfl (?_)))
  refine WL.alloc Tryz.zeroValue91 rfl ?_
  intro g2 w9 hge2 hlt2 hb2 k9
  have zs_k9 := k9.size
  replace hB := hB.pure k9
  replace h := h.pure k9
  replace hw := hw.pure k9
  replace hb3 := hb3.pure k9
  replace hb4 := hb4.pure k9
  replace hD := hD.pure k9
  replace hGr := hGr.pure k9
  replace hb1 := hb1.pure k9
  replace hO := hO.pure k9
  replace hI := hI.pure k9
  refine WL.store Tryz.sizeOf91 hb2 rfl rfl rfl rfl ?_
  intro w_2 hs_2 hn_2 k_2
  have zs_k_2 := k_2.size
  replace hB := hB.chg k_2 (by intro h1; have h2 : _ = _ := h1; exfalso; omega)
  replace h := h.chg k_2 (by intro b h1 h2 h3; have h4 : _ = _ := h3; (try dsimp only at h2); exfalso; omega)
  replace hw := hw.chg k_2 (by intro x h1 h2; have h3 : _ = _ := h2; exfalso; omega)
  replace hb3 := hb3.chg k_2 (by intro h1; have h2 : _ = _ := h1; exfalso; omega)
  replace hb4 := hb4.chg k_2 (by intro h1; have h2 : _ = _ := h1; exfalso; omega)
  replace hD := hD.chg k_2 (by intro b h1 h2 h3; have h4 : _ = _ := h3; (try dsimp only at h2); exfalso; omega)
  replace hGr := hGr.chg k_2 (by intro b h1 h2 h3; have h4 : _ = _ := h3; (try dsimp only at h2); exfalso; omega)
  replace hb1 := hb1.chg k_2 (by intro h1; have h2 : _ = _ := h1; exfalso; omega)
  replace hO := hO.chg k_2 (by intros; exfalso; (try dsimp only at *); omega)
  replace hI := hI.chg k_2 (by intro b h1 h2 h3; have h4 : _ = _ := h3; (try dsimp only at h2); exfalso; omega)
  replace hb2 := hn_2
  refine WL.assign rfl rfl (WL.nil (WX.then_normal (WC.seq (WC.seq (WC.region (WL.move rfl rfl (?_)))))))
  refine WL.neqF rfl rfl rfl (by rfl) ?_
  refine WL.nil (WX.then_normal (WC.cond_false rfl (WC.skip (WX.then_normal (WC.seq (WC.region (WL.move rfl rfl (?_))))))))
  refine WL.makeFun rfl rfl ?_
  have hb1' : Blk _ g1 39 [.slice ga (bgon s addr size).length gc] := hb1
  have hb2' : Blk _ g2 91 [.slice la2 l.length lc] := hb2
  have hatD := hD.at_
  have l10 := hb1'.lt
  have l20 := hb2'.lt
  refine WL.call eg_46 rfl rfl (rst_calls hb1' hGr.rsl (by omega) hD (fun b h1 h2 => by have := h1.2; have := h2.1; omega) (fun b h1 h2 => by have := h1.2; omega)) ?_
  rintro v w10 ⟨rfl, hr, k10⟩
  have z10 := k10.size
  have hM : ∀ x, (x < w4.heap.size ∨ w5.heap.size ≤ x) → Eqb da x → False := fun x h1 h2 => by have := hatD.eqb h2; omega
  replace hb1' := hb1'.chg k10 (fun h => hM _ (.inr (by omega)) h)
  replace hb2' := hb2'.chg k10 (fun h => hM _ (.inr (by omega)) h)
  replace hb3 := hb3.chg k10 (fun h => hM _ (.inl (by omega)) h)
  replace hb4 := hb4.chg k10 (fun h => hM _ (.inl (by omega)) h)
  replace hGr := hGr.chg k10 (fun x _ h1 h2 => hM x (.inr h1.1) h2)
  replace hO := hO.chg k10 (fun x _ h1 _ h2 => hM x (.inr (by have := h1.1; omega)) h2)
  replace hI := hI.chg k10 (fun x _ h1 h2 => hM x (.inr (by have := h1.1; omega)) h2)
  replace hw := hw.chg k10 (fun x h1 h2 => hM x (.inl (by omega)) h2)
  refine WL.assign rfl rfl (WL.nil (WX.then_normal (WC.seq (WC.region (?_)))))
  obtain ⟨N, hN⟩ : ∃ N, N = w10.heap.size := ⟨_, rfl⟩
  refine WL.alloc Tryz.zeroValue26 rfl ?_
  intro g5 w11 hge5 hlt5 hb5 k11
  have zs_k11 := k11.size
  replace hw := hw.pure k11
  replace hb3 := hb3.pure k11
  replace hb4 := hb4.pure k11
  replace hGr := hGr.pure k11
  replace hO := hO.pure k11
  replace hI := hI.pure k11
  replace hb1' := hb1'.pure k11
  replace hb2' := hb2'.pure k11
  replace hr := hr.pure k11
  refine WL.nil (WX.then_normal (WC.seq (WC.region (?_))))
  refine WL.alloc Tryz.zeroValue39 rfl ?_
  intro g6 w12 hge6 hlt6 hb6 k12
  have zs_k12 := k12.size
  replace hw := hw.pure k12
  replace hb3 := hb3.pure k12
  replace hb4 := hb4.pure k12
  replace hGr := hGr.pure k12
  replace hO := hO.pure k12
  replace hI := hI.pure k12
  replace hb1' := hb1'.pure k12
  replace hb2' := hb2'.pure k12
  replace hr := hr.pure k12
  replace hb5 := hb5.pure k12
  refine WL.nil (WX.then_normal (WC.seq (WC.region (?_))))
  refine WL.makeFun6 rfl rfl rfl rfl rfl rfl rfl ?_
  refine WL.assign rfl rfl (WL.nil (WX.then_normal (WC.seq (WC.seq (WC.region (WL.loadB Tryz.isAgg39 hb1' rfl rfl rfl (WL.len Tryz.underlying39 rfl rfl (?_))))))))
  refine WL.sub64 rfl rfl (by constructor <;> omega) rfl ?_
  refine WL.add64 rfl rfl (by constructor <;> omega) rfl ?_
  rw [show (3 : Int) - ((bgon s addr size).length : Int) + 1 = ((4 - (bgon s addr size).length : Nat) : Int) from by omega]
  refine WL.move rfl rfl (WL.nil (WX.then_normal (WC.block (?_))))
  obtain ⟨rest, hrest⟩ : ∃ rest, rest = brst s addr size := ⟨_, rfl⟩
  have erest : rstA (bgon s addr size) (bdrv s addr size) = rest := by rw [hrest]; rfl
  have hrl : rest.length ≤ 16 := by rw [hrest]; exact Nat.le_trans (List.length_filter_le _ _) (bdrv_len hdn.2)
  have ep : ∀ t, fitB G l size sum t = fitA s f addr size sum (srt (bgon s addr size ++ t)) := fun t => by rw [fitB, fitA, bytA, habs, hG]
  have erd : rdA s f addr size sum = (setsA rest (4 - G.length)).find? (fitB G l size sum) := by
    rw [rdA, ← hrest, hG]
    congr 1
    funext t
    have h9 := ep t
    rw [← hG] at h9 ⊢
    exact h9.symm
  have hk := kR_str h5 habs
  have hsu := secsA_up (size := size)
  have hs8 := secsA_le hs.2
  have hll : l.length ≤ 8 := by
    have h1 : l.length = (l.map Stp.abs).length := by simp
    rw [h1, habs, strA, List.length_map]
    exact Nat.le_trans (rowsA_len (by omega) _ _) hs8
  have hokl : ∀ out : List Int, G.length + out.length ≤ 3 → ∀ st ∈ l, OkCol st.abs.1 st.abs.2 (srt (G ++ out)) := fun out ho => by
    rw [hG] at ho ⊢
    exact str_ok hok h5 habs ho
  have hby : ∀ t, bytB G l size t = bytA s f addr size (srt (bgon s addr size ++ t)) := fun t => by rw [bytB, bytA, habs, hG]
  have zw12 := hw.size
  have hE : FE N w12 g1 g2 g3 g4 g5 g6 ga gc G la2 lc l size sum := ⟨by rw [hG]; exact hb1', hb2', hb3, hb4, ⟨_, _, _, hb5⟩, ⟨_, _, _, hb6⟩, by rw [hG]; exact hGr.rsl.mono (fun x hx => by have := hx.2; show x < N; omega), RSK.mono hO (fun x _ hx => by have := hx.2; show x < N; omega), hI.mono (fun x _ hx => by have := hx.2; show x < N; omega), ⟨by omega, by omega, by omega, by omega⟩, by omega, by omega⟩
  have hr2 : RSl (· < N) w12 ei da dc rest := by rw [← erest]; exact hr.rsl.mono (fun x hx => by have := hx.2; show x < N; omega)
  rw [erest]
  rw [← hG] at hg ⊢
  have g5w : w.heap.size ≤ g5 := by omega
  have g6w : w.heap.size ≤ g6 := by omega
  refine WC.loop (σ := Nat) (fun n => [(15, .slice da rest.length dc), (16, ptr g5), (17, ptr g6), (18, fnFit g1 g2 g3 g4 g5 g6), (60, vi ((4 - G.length : Nat) : Int)), (61, vi (n : Int))]) (fun n w' => n ≤ 4 - G.length ∧ FE N w' g1 g2 g3 g4 g5 g6 ga gc G la2 lc l size sum ∧ RSl (· < N) w' ei da dc rest ∧ (setsA rest n).find? (fitB G l size sum) = none ∧ Chg Nob w w') (fun n => 4 - G.length - n) 0 ⟨rfl, rfl, rfl, rfl, rfl, rfl, trivial⟩ ⟨Nat.zero_le _, hE, hr2, rfl, hw⟩ ?_
  clear hE hr2 hw hb1' hb2' hb3 hb4 hb5 hb6 hGr hO hI hr
  rintro n w13 ⟨hn, hE, hr2, hno, hw⟩
  have hne := hE.ne
  refine WC.seq (WC.region (?_))
  refine WL.lss? rfl rfl rfl (fun h62 => ?_) (fun h62 => ?_)
  ·
    refine WL.nil (WX.then_normal (WC.seq (WC.cond_true rfl (WC.skip (WX.then_normal (WC.seq (WC.block (?_))))))))
    refine WC.seq (WC.region (WL.move rfl rfl (WL.assign rfl rfl (WL.nil (WX.then_normal (WC.seq (WC.region (?_))))))))
    refine WL.move rfl rfl (WL.move rfl rfl (WL.move rfl rfl (?_)))
    have hn3 : n < 4 - G.length := by omega
    have zb := hw.size
    have hcall := try_calls (by omega) hll ⟨hs.1, by rw [hk]; omega⟩ (by rw [hk]; omega) hs.2 n (set := []) (sa := none) (sc := 0) hE hr2 (RSl.nil (fun x => x ≠ g5 ∧ x ≠ g6) w13 ei none 0) (by omega) (by show 0 + n ≤ 90; omega) (fun out ho => hokl out (by have h9 : out.length = 0 + n := ho; omega))
    rw [List.length_nil] at hcall
    refine WL.call eg_53 rfl rfl (hcall) ?_
    rintro v w14 ⟨rfl, hE14, hgot, k14⟩
    obtain ⟨bo, hbo⟩ : ∃ bo, bo = ((combos rest n []).find? (fitB G l size sum)).isSome := ⟨_, rfl⟩
    rw [← hbo]
    have hgf : GotF _ _ g5 g6 G l size ((combos rest n []).find? (fitB G l size sum)) := hgot
    clear hgot
    replace hr2 := hr2.chg k14 (fun b _ h1 h2 => by have h3 : b < N := h1; rcases h2 with h4 | h4 <;> omega)
    replace hw := hw.chg k14 (fun b h1 h2 => by rcases h2 with h4 | h4 <;> omega)
    refine WL.nil (WX.then_normal (?_))
    first | refine WC.cond_dec rfl (fun hc67 => ?_) (fun hc67 => ?_) | refine WC.cond_split rfl (fun hc67 => ?_) (fun hc67 => ?_)
    ·
      refine WC.seq (?_)
      have hh : bo = true := hc67
      obtain ⟨out, hout⟩ : ∃ out, (combos rest n []).find? (fitB G l size sum) = some out := Option.isSome_iff_exists.1 (by rw [← hbo, hh])
      obtain ⟨hln, fa, fc, ba, bc, h5', hB', h6', hb'⟩ := hgf out hout
      refine WC.draw (Nob) [0, 1, 2, 3, 4] [] mixed rfl rfl (fun wd_3 kd_3 zd_3 => ?_)
      have zs_kd_3 := kd_3.size
      replace hr2 := hr2.pure kd_3
      replace hw := hw.pure kd_3
      replace hE14 := hE14.pure kd_3
      replace h5' := h5'.pure kd_3
      replace hB' := hB'.pure kd_3
      replace h6' := h6'.pure kd_3
      replace hb' := hb'.pure kd_3
      apply DQ.step (E' := [(16, _)])
      case ho => rfl
      case hs => exact ⟨rfl, trivial⟩
      case hk => rfl
      case h1 =>
        intro wq_4 kq_4
        have zs_kq_4 := kq_4.size
        replace hr2 := hr2.pure kq_4
        replace hw := hw.pure kq_4
        replace hE14 := hE14.pure kq_4
        replace h5' := h5'.pure kq_4
        replace hB' := hB'.pure kq_4
        replace h6' := h6'.pure kq_4
        replace hb' := hb'.pure kq_4
        refine WL.loadB Tryz.isAgg26 h5' rfl rfl rfl (?_)
        refine WL.nil ?_
        exact WX.one ⟨rfl, by exact Chg.refl _ _⟩
      apply DQ.step (E' := [(17, _)])
      case ho => rfl
      case hs => exact ⟨rfl, trivial⟩
      case hk => rfl
      case h1 =>
        intro wq_5 kq_5
        have zs_kq_5 := kq_5.size
        replace hr2 := hr2.pure kq_5
        replace hw := hw.pure kq_5
        replace hE14 := hE14.pure kq_5
        replace h5' := h5'.pure kq_5
        replace hB' := hB'.pure kq_5
        replace h6' := h6'.pure kq_5
        replace hb' := hb'.pure kq_5
        refine WL.loadB Tryz.isAgg39 h6' rfl rfl rfl (?_)
        refine WL.nil ?_
        exact WX.one ⟨rfl, by exact Chg.refl _ _⟩
      apply DQ.step (E' := [(68, _)])
      case ho => rfl
      case hs => exact ⟨rfl, trivial⟩
      case hk => rfl
      case h1 =>
        intro wq_6 kq_6
        refine WL.assign rfl rfl (?_)
        refine WL.nil ?_
        exact WX.one ⟨rfl, by exact Chg.refl _ _⟩
      apply DQ.step (E' := [(69, _)])
      case ho => rfl
      case hs => exact ⟨rfl, trivial⟩
      case hk => rfl
      case h1 =>
        intro wq_7 kq_7
        refine WL.assign rfl rfl (?_)
        refine WL.nil ?_
        exact WX.one ⟨rfl, by exact Chg.refl _ _⟩
      apply DQ.step (E' := [])
      case ho => rfl
      case hs => exact trivial
      case hk => rfl
      case h1 =>
        intro wq_8 kq_8
        refine WL.assign rfl rfl (?_)
        refine WL.nil ?_
        exact WX.one ⟨rfl, by exact Chg.refl _ _⟩
      refine DQ.done (fun _ => ?_)
      refine DL.done (fun we_9 ke_9 => ?_)
      have zs_ke_9 := ke_9.size
      replace hr2 := hr2.pure ke_9
      replace hw := hw.pure ke_9
      replace hE14 := hE14.pure ke_9
      replace h5' := h5'.pure ke_9
      replace hB' := hB'.pure ke_9
      replace h6' := h6'.pure ke_9
      replace hb' := hb'.pure ke_9
      refine WX.then_normal (WC.ret (WX.block_ret (WX.then_ret (WX.then_ret (WX.block_ret (WX.then_ret (?_)))))))
      refine WX.ret3 (.inl rfl) Tryz.results19 rfl rfl rfl ?_
      have hft : (setsA rest (4 - G.length)).find? (fitB G l size sum) = some out := setsA_up (m := n + 1) (by rw [setsA_succ, find_append, hno, hout]) (by omega)
      rw [erd, hft]
      refine ⟨_, rfl, (fun h => by cases h), (fun t ht => ?_), hw⟩
      injection ht with ht
      subst ht
      have hb9 := hby out
      rw [← hG] at hb9
      rw [← hb9]
      exact ⟨fa, fc, ba, bc, rfl, hB'.mono (fun x hx => Nat.le_trans zb hx), hb'.mono (fun x hx => Nat.le_trans zb hx), hln⟩
    ·
      refine WC.skip (WX.block_normal (WX.then_normal (WC.region (WL.add64 rfl rfl (by omega) rfl (WL.move rfl rfl (WL.nil (?_)))))))
      have hnone : (combos rest n []).find? (fitB G l size sum) = none := by
        rw [hc67] at hbo
        exact Option.not_isSome_iff_eq_none.1 (by rw [← hbo]; decide)
      exact WX.loop_next (n + 1) ⟨rfl, rfl, rfl, rfl, rfl, rfl, trivial⟩ ⟨by omega, hE14, hr2, by rw [setsA_succ, find_append, hno, hnone], hw⟩ (by omega)
  ·
    refine WL.nil (WX.then_normal (WC.seq (WC.cond_false rfl (WC.exit (WX.then_exit (WX.then_exit (WX.block_here (?_))))))))
    refine WX.then_normal (WC.seq (WC.region (WL.assign rfl rfl (WL.assign rfl rfl (WL.assign rfl rfl (WL.nil (WX.then_normal (?_))))))))
    refine WC.ret (?_)
    refine WX.ret3 (.inl rfl) Tryz.results19 rfl rfl rfl ?_
    rcases Nat.lt_or_ge n (4 - G.length) with hx | hx
    ·
      exfalso
      omega
    ·
      have hnl : n = 4 - G.length := by omega
      rw [hnl] at hno
      rw [erd, hno]
      exact ⟨_, rfl, fun _ => rfl, (fun t ht => by cases ht), hw⟩
end Go.Proofs.YtggecdldnpildaaGreat
namespace Go.Proofs.YtggecdldnpildaaGreat
open Go.RowKit Go.HL
set_option maxRecDepth 100000

/-! the same numbers; a text's sum; what is known -/
theorem same6_calls {S1 S2 : Nat → Prop} {w : World} {a1 a2 : Option Addr} {c1 c2 : Nat} {xs ys : List Int} (h1 : RSl S1 w ei a1 c1 xs) (h2 : RSl S2 w ei a2 c2 ys) (hl : xs.length ≤ 9223372036854775807) :
    Calls Tryz.prog 54 [.slice a1 xs.length c1, .slice a2 ys.length c2].toArray w (Ret fun v w' => v = .bool (decide (xs = ys)) ∧ Chg Nob w w') := by
  have hw := Chg.refl Nob w
  refine Calls.of_WC Tryz.func54 rfl Tryz.ntmps54 (by simp) ?_
  refine WC.seq (WC.region (WL.assign rfl rfl (WL.nil (WX.then_normal (WC.seq (WC.seq (WC.region (?_))))))))
  refine WL.move rfl rfl (WL.len Tryz.underlying39 rfl rfl (WL.move rfl rfl (WL.len Tryz.underlying39 rfl rfl (?_))))
  refine WL.neq? rfl rfl rfl (fun h10 => ?_) (fun h10 => ?_)
  ·
    refine WL.nil (WX.then_normal (WC.cond_true rfl (WC.seq (WC.region (WL.assign rfl rfl (WL.nil (WX.then_normal (?_))))))))
    refine WC.ret (WX.then_ret (?_))
    refine WX.ret1 (.inl rfl) Tryz.results54 rfl ?_
    refine ⟨_, rfl, ?_, hw⟩
    rw [decide_eq_false (fun e => by rw [e] at h10; omega)]
  ·
    refine WL.nil (WX.then_normal (WC.cond_false rfl (WC.skip (WX.then_normal (WC.seq (WC.seq (WC.region (?_))))))))
    refine WL.assign rfl rfl (WL.nil (WX.then_normal (WC.block (?_))))
    refine WC.loop (σ := Nat) (fun i => [(0, .slice a1 xs.length c1), (1, .slice a2 ys.length c2), (5, vi (i : Int))]) (fun i w' => i ≤ xs.length ∧ RSl S1 w' ei a1 c1 xs ∧ RSl S2 w' ei a2 c2 ys ∧ Chg Nob w w' ∧ ∀ j, j < i → xs[j]? = ys[j]?) (fun i => xs.length - i) 0 ⟨rfl, rfl, rfl, trivial⟩ ⟨Nat.zero_le _, h1, h2, hw, fun j hj => by omega⟩ ?_
    clear h1 h2 hw
    rintro i w1 ⟨hi, h1, h2, hw, hno⟩
    refine WC.seq (WC.seq (WC.region (WL.move rfl rfl (WL.move rfl rfl (WL.len Tryz.underlying39 rfl rfl (?_))))))
    refine WL.lss? rfl rfl rfl (fun h14 => ?_) (fun h14 => ?_)
    ·
      refine WL.nil (WX.then_normal (WC.cond_true rfl (WC.skip (WX.then_normal (WC.seq (WC.block (WC.seq (?_))))))))
      obtain ⟨x, hx⟩ : ∃ x, xs[i]? = some x := ⟨_, List.getElem?_eq_getElem (by omega)⟩
      obtain ⟨y, hy⟩ : ∃ y, ys[i]? = some y := ⟨_, List.getElem?_eq_getElem (by omega)⟩
      obtain ⟨b1, o1, rfl⟩ := h1.place hx
      obtain ⟨b2, o2, rfl⟩ := h2.place hy
      refine WC.draw (Nob) [0, 1, 2, 3, 4, 5, 6, 7, 8] [] mixed rfl rfl (fun wd_1 kd_1 zd_1 => ?_)
      have zs_kd_1 := kd_1.size
      replace h1 := h1.pure kd_1
      replace h2 := h2.pure kd_1
      replace hw := hw.pure kd_1
      apply DQ.step (E' := [(0, _)])
      case ho => rfl
      case hs => exact ⟨rfl, trivial⟩
      case hk => rfl
      case h1 =>
        intro wq_2 kq_2
        refine WL.move rfl rfl (?_)
        refine WL.nil ?_
        exact WX.one ⟨rfl, by exact Chg.refl _ _⟩
      apply DQ.step (E' := [(5, _)])
      case ho => rfl
      case hs => exact ⟨rfl, trivial⟩
      case hk => rfl
      case h1 =>
        intro wq_3 kq_3
        refine WL.move rfl rfl (?_)
        refine WL.nil ?_
        exact WX.one ⟨rfl, by exact Chg.refl _ _⟩
      apply DQ.step (E' := [(17, _), (18, _)])
      case ho => rfl
      case hs => exact ⟨rfl, rfl, trivial⟩
      case hk => rfl
      case h1 =>
        intro wq_4 kq_4
        have zs_kq_4 := kq_4.size
        replace h1 := h1.pure kq_4
        replace h2 := h2.pure kq_4
        replace hw := hw.pure kq_4
        refine WL.indexC h1 Tryz.underlying39 Tryz.sizeOf3 rfl rfl ⟨hx, rfl⟩ rfl ?_
        refine WL.nil ?_
        exact WX.one ⟨rfl, by exact Chg.refl _ _⟩
      apply DQ.step (E' := [(19, _)])
      case ho => rfl
      case hs => exact ⟨rfl, trivial⟩
      case hk => rfl
      case h1 =>
        intro wq_5 kq_5
        have zs_kq_5 := kq_5.size
        replace h1 := h1.pure kq_5
        replace h2 := h2.pure kq_5
        replace hw := hw.pure kq_5
        refine WL.load Tryz.isAgg3 rfl ((h1.cellsAt hx) 0 _ rfl) rfl (?_)
        refine WL.nil ?_
        exact WX.one ⟨rfl, by exact Chg.refl _ _⟩
      apply DQ.step (E' := [(1, _)])
      case ho => rfl
      case hs => exact ⟨rfl, trivial⟩
      case hk => rfl
      case h1 =>
        intro wq_6 kq_6
        refine WL.move rfl rfl (?_)
        refine WL.nil ?_
        exact WX.one ⟨rfl, by exact Chg.refl _ _⟩
      apply DQ.step (E' := [(5, _)])
      case ho => rfl
      case hs => exact ⟨rfl, trivial⟩
      case hk => rfl
      case h1 =>
        intro wq_7 kq_7
        refine WL.move rfl rfl (?_)
        refine WL.nil ?_
        exact WX.one ⟨rfl, by exact Chg.refl _ _⟩
      apply DQ.step (E' := [(21, _), (22, _)])
      case ho => rfl
      case hs => exact ⟨rfl, rfl, trivial⟩
      case hk => rfl
      case h1 =>
        intro wq_8 kq_8
        have zs_kq_8 := kq_8.size
        replace h1 := h1.pure kq_8
        replace h2 := h2.pure kq_8
        replace hw := hw.pure kq_8
        refine WL.indexC h2 Tryz.underlying39 Tryz.sizeOf3 rfl rfl ⟨hy, rfl⟩ rfl ?_
        refine WL.nil ?_
        exact WX.one ⟨rfl, by exact Chg.refl _ _⟩
      apply DQ.step (E' := [(23, _)])
      case ho => rfl
      case hs => exact ⟨rfl, trivial⟩
      case hk => rfl
      case h1 =>
        intro wq_9 kq_9
        have zs_kq_9 := kq_9.size
        replace h1 := h1.pure kq_9
        replace h2 := h2.pure kq_9
        replace hw := hw.pure kq_9
        refine WL.load Tryz.isAgg3 rfl ((h2.cellsAt hy) 0 _ rfl) rfl (?_)
        refine WL.nil ?_
        exact WX.one ⟨rfl, by exact Chg.refl _ _⟩
      apply DQ.split (E' := [(20, _), (24, _)])
      case ho => rfl
      case hs => exact ⟨rfl, rfl, trivial⟩
      case hk => rfl
      case h1 =>
        intro wq_10 kq_10
        refine WL.neq rfl rfl rfl ?_
        refine WL.nil ?_
        exact WX.one ⟨rfl, by exact Chg.refl _ _⟩
      case ht =>
        intro h25
        replace h25 := of_decide_eq_true h25
        refine DQ.done (fun _ => ?_)
        refine DL.done (fun we_11 ke_11 => ?_)
        have zs_ke_11 := ke_11.size
        replace h1 := h1.pure ke_11
        replace h2 := h2.pure ke_11
        replace hw := hw.pure ke_11
        refine WX.then_normal (WC.cond_true rfl (WC.seq (WC.region (WL.assign rfl rfl (WL.nil (WX.then_normal (WC.ret (?_))))))))
        refine WX.block_ret (WX.then_ret (WX.then_ret (WX.block_ret (WX.then_ret (?_)))))
        refine WX.ret1 (.inl rfl) Tryz.results54 rfl ?_
        refine ⟨_, rfl, ?_, hw⟩
        rw [decide_eq_false (fun e => by rw [e, hy] at hx; injection hx with hx; omega)]
      case hf =>
        intro h25
        replace h25 := of_decide_eq_false h25
        refine DQ.done (fun _ => ?_)
        refine DL.done (fun we_11 ke_11 => ?_)
        have zs_ke_11 := ke_11.size
        replace h1 := h1.pure ke_11
        replace h2 := h2.pure ke_11
        replace hw := hw.pure ke_11
        refine WX.then_normal (WC.cond_false rfl (WC.skip (WX.block_normal (WX.then_normal (WC.region (WL.move rfl rfl (WL.add64 rfl rfl (by omega) rfl (?_))))))))
        refine WL.assign rfl rfl (WL.nil (?_))
        refine WX.loop_next (i + 1) ⟨rfl, rfl, rfl, trivial⟩ ⟨by omega, h1, h2, hw, fun j hj => ?_⟩ (by omega)
        rcases Nat.lt_or_ge j i with h3 | h3
        ·
          exact hno j h3
        ·
          have h4 : j = i := by omega
          subst h4
          have h5 : x = y := by omega
          rw [hx, hy, h5]
    ·
      refine WL.nil (WX.then_normal (WC.cond_false rfl (WC.exit (WX.then_exit (WX.then_exit (WX.block_here (WX.then_normal (?_))))))))
      refine WC.seq (WC.region (WL.assign rfl rfl (WL.nil (WX.then_normal (WC.ret (?_))))))
      refine WX.ret1 (.inl rfl) Tryz.results54 rfl ?_
      refine ⟨_, rfl, ?_, hw⟩
      rw [decide_eq_true (List.ext_getElem? (fun j => by
        rcases Nat.lt_or_ge j xs.length with h3 | h3
        ·
          exact hno j (by omega)
        ·
          rw [List.getElem?_eq_none h3, List.getElem?_eq_none (by omega)]))]
theorem sum6_calls (w : World) (t : ByteArray) (ht : t.size ≤ 4000) : Calls Tryz.prog 24 [.string t].toArray w (Ret fun v w' => v = .string ⟨(sumB t.data.toList).toArray⟩ ∧ Chg Nob w w') := by
  have hw := Chg.refl Nob w
  have hts : t.data.toList.length = t.size := by rw [Array.length_toList]; rfl
  refine Calls.of_WC Tryz.func24 rfl Tryz.ntmps24 (by simp) ?_
  refine WC.seq (WC.region (WL.assign rfl rfl (WL.nil (WX.then_normal (WC.seq (WC.region (WL.move rfl rfl (?_))))))))
  refine WL.toBytes Tryz.underlying9 Tryz.underlying26 Tryz.underlying5 rfl (by omega) rfl ?_
  intro a_hb c_hb w_hb hb k_hb z_hb
  have zs_k_hb := k_hb.size
  replace hw := hw.pure k_hb
  refine WL.call eg_12 rfl rfl (sum_calls hb.rsl (by omega)) ?_
  rintro v w5 ⟨rfl, k5⟩
  have zs_k5 := k5.size
  replace hw := hw.pure k5
  replace hb := hb.pure k5
  refine WL.assign rfl rfl (WL.nil (WX.then_normal (WC.ret (?_))))
  refine WX.ret1 (.inl rfl) Tryz.results24 rfl ?_
  exact ⟨_, rfl, rfl, hw⟩
theorem bgon_none {s : RA} (h : ∀ d, goneS s d = false) (addr size : Nat) : bgon s addr size = [] := List.filter_eq_nil_iff.2 (fun d _ => by simp [h d])
theorem sum32 (b : List UInt8) : (⟨(sumB b).toArray⟩ : ByteArray).size = 32 := sumB_len b
set_option maxHeartbeats 4000000 in
theorem known6_calls (w : World) : Calls Tryz.prog 20 [].toArray w (Ret fun v w' => v = .bool true ∧ Chg Nob w w') := by
  have hw := Chg.refl Nob w
  obtain ⟨s0, es0⟩ : ∃ s0, s0 = newS 5 3 := ⟨_, rfl⟩
  have u0 : Up s0 := es0 ▸ newS_up 5 3
  have sd : s0.dn = 5 := by rw [es0]; rfl
  have sn : s0.sn = 3 := by rw [es0]; rfl
  have sw : s0.waits.length = 0 := by rw [es0]; rfl
  have sg : ∀ d, goneS s0 d = false := fun d => by rw [es0]; exact newS_gone 5 3 d
  obtain ⟨B, eB⟩ : ∃ B : List UInt8, B = [97, 98, 99] := ⟨_, rfl⟩
  have hBl : B.length = 3 := by rw [eB]; rfl
  refine Calls.of_WC Tryz.func20 rfl Tryz.ntmps20 (by simp) ?_
  refine WC.seq (WC.region (WL.assign rfl rfl (WL.nil (WX.then_normal (WC.seq (WC.region (?_)))))))
  refine WL.call eg_13 rfl rfl (New_calls w (dn := 5) (sn := 3) (by decide) (by decide)) ?_
  rintro v w1 ⟨⟨R, rfl, hR⟩, k1⟩
  rw [← es0] at hR
  replace hR := hR.old
  have zs_k1 := k1.size
  replace hw := hw.pure k1
  refine WL.move rfl rfl (WL.extract rfl rfl rfl (WL.extract rfl rfl rfl (WL.assign rfl rfl (WL.assign rfl rfl (WL.nil (WX.then_normal (WC.seq (?_))))))))
  refine WC.region (WL.move rfl rfl (?_))
  refine WL.call eg_14 rfl rfl (anew_calls hR 1 (by omega) (by omega)) ?_
  rintro v w2 ⟨⟨a, rfl, hBa, hage⟩, k2⟩
  have la := hBa.lt
  have zw1 := hw.size
  have zs_k2 := k2.size
  replace hw := hw.pure k2
  replace hR := hR.pure k2
  refine WL.move rfl rfl (WL.extract rfl rfl rfl (WL.extract rfl rfl rfl (WL.assign rfl rfl (WL.assign rfl rfl (WL.nil (WX.then_normal (WC.seq (?_))))))))
  refine WC.seq (WC.region (WL.move rfl rfl (?_)))
  refine WL.neqF rfl rfl rfl (by rfl) ?_
  refine WL.move rfl rfl (WL.want rfl rfl rfl (WL.move rfl rfl (WL.want rfl rfl rfl (?_))))
  refine WL.neqF rfl rfl rfl (by rfl) ?_
  refine WL.pickF rfl rfl rfl (WL.move rfl rfl (WL.want rfl rfl rfl (WL.move rfl rfl (WL.want rfl rfl rfl (?_)))))
  refine WL.ptrNil Tryz.underlying31 rfl rfl rfl ?_
  refine WL.pickF rfl rfl rfl (WL.move rfl rfl (WL.want rfl rfl rfl (WL.move rfl rfl (WL.want rfl rfl rfl (?_)))))
  refine WL.call eg_16 rfl rfl (Cells_calls hBa hR (by omega)) ?_
  rintro v w3 ⟨rfl, k3⟩
  rw [show s0.dn * (s0.sn - 1) = 10 from by rw [sd, sn]]
  have zs_k3 := k3.size
  replace hw := hw.pure k3
  replace hR := hR.pure k3
  replace hBa := hBa.pure k3
  refine WL.want rfl rfl rfl (?_)
  refine WL.neqF rfl rfl rfl (by rfl) ?_
  refine WL.pickF rfl rfl rfl (WL.move rfl rfl (WL.want rfl rfl rfl (WL.move rfl rfl (WL.want rfl rfl rfl (?_)))))
  refine WL.build (e := eb) [97, 98, 99] Tryz.underlying26 Tryz.sizeOf5 Tryz.zeroValue5 rfl rfl rfl (by simp [Value.cells] <;> rfl) (by decide) rfl ?_
  intro a_q34 w_q34 q34 l_q34 z_q34 k_q34
  have zs_k_q34 := k_q34.size
  replace hw := hw.pure k_q34
  replace hR := hR.pure k_q34
  replace hBa := hBa.pure k_q34
  refine WL.want rfl rfl rfl (?_)
  have zc := hw.size
  refine WL.mark Tryz.underlying26 Tryz.underlying5 q34 (by decide) rfl rfl ?_
  intro w4 hq k4 z4
  replace hR := hR.chg k4 (fun x _ h1 h2 => by have := h1.2; have := h2.2; omega)
  replace hBa := hBa.chg k4 (fun h => by have := h.2; omega)
  replace hw := hw.chg k4 (fun x h1 h2 => by have := h2.2; omega)
  rw [← eB] at hq ⊢
  refine WL.want rfl rfl rfl (?_)
  have c1 : costA s0.dn (secsA B.length) = 4 := by rw [sd, hBl]; decide +kernel
  have l2 := hBa.lt
  have hc := awrite_good hBa (fun h => by have := h.2; omega) hR (fun x hx => by have := hx.2; omega) u0 (by omega) (by omega) 1 hq (by omega) (by rw [c1, sd, sn]; decide) (by omega) (by rw [bgon_none sg]; decide)
  refine WL.call eg_17 rfl rfl (hc) ?_
  rintro v w5 ⟨rfl, hR5, k5⟩
  have z5 := k5.size
  replace hBa := hBa.chg k5 (fun h => by have := h.2; omega)
  replace hw := hw.chg k5 (fun x h1 h2 => by have h3 : w.heap.size ≤ x := h2.1; omega)
  have hna : ¬ (((w.heap.size ≤ a) ∧ a < w1.heap.size) ∨ w4.heap.size ≤ a) := fun h => by omega
  have hA5 : ∀ x, x < w.heap.size → (((w.heap.size ≤ x) ∧ x < w1.heap.size) ∨ w4.heap.size ≤ x) → False := fun x h1 h2 => by omega
  have hI0 := wrT_intact s0 1 1 (layA s0.dn B) (bad := []) (fun c h1 h2 hg => by rw [sg] at hg; cases hg)
  obtain ⟨s1, es1⟩ : ∃ s1, s1 = wrT s0 1 1 (layA s0.dn B) (layA s0.dn B).length := ⟨_, rfl⟩
  obtain ⟨d1, n1, -, -⟩ := wrT_dn s0 1 1 (layA s0.dn B) (layA s0.dn B).length
  have u1 := wrT_up u0 1 1 (layA s0.dn B) (layA s0.dn B).length
  have g1 : ∀ d, goneS s1 d = false := fun d => by rw [es1, wrT_gone]; exact sg d
  rw [← es1] at hI0 hR5 d1 n1 u1
  rw [sd] at d1 hI0 hBa
  rw [sn] at n1
  clear es1
  refine WL.want rfl rfl rfl (?_)
  refine WL.neqF rfl rfl rfl (by rfl) ?_
  refine WL.pickF rfl rfl rfl (WL.move rfl rfl (WL.want rfl rfl rfl (WL.move rfl rfl (WL.want rfl rfl rfl (?_)))))
  have ok1 := hR5.ok
  refine WL.call eg_18 rfl rfl (LoseU hR5 (d := 1) (by constructor <;> omega)) ?_
  rintro v w6 ⟨rfl, hR6, k6⟩
  replace hBa := hBa.chg k6 hna
  replace hw := hw.chg k6 (fun x h1 h2 => (hA5 x h1 h2).elim)
  refine WL.want rfl rfl rfl (?_)
  refine WL.neqF rfl rfl rfl (by rfl) ?_
  refine WL.pickF rfl rfl rfl (WL.move rfl rfl (WL.want rfl rfl rfl (WL.move rfl rfl (WL.want rfl rfl rfl (?_)))))
  have ok2 := hR6.ok
  refine WL.call eg_18 rfl rfl (LoseU hR6 (d := 2) ⟨by decide, by show (2 : Int) < (s1.dn : Int); omega⟩) ?_
  rintro v w7 ⟨rfl, hR7, k7⟩
  replace hBa := hBa.chg k7 hna
  replace hw := hw.chg k7 (fun x h1 h2 => (hA5 x h1 h2).elim)
  refine WL.want rfl rfl rfl (?_)
  refine WL.neqF rfl rfl rfl (by rfl) ?_
  refine WL.pickF rfl rfl rfl (WL.move rfl rfl (WL.want rfl rfl rfl (WL.move rfl rfl (WL.want rfl rfl rfl (?_)))))
  have ok3 := hR7.ok
  refine WL.call eg_18 rfl rfl (LoseU hR7 (d := 4) ⟨by decide, by show (4 : Int) < (s1.dn : Int); omega⟩) ?_
  rintro v w8 ⟨rfl, hR8, k8⟩
  replace hBa := hBa.chg k8 hna
  replace hw := hw.chg k8 (fun x h1 h2 => (hA5 x h1 h2).elim)
  have ok4 := hR8.ok
  have i1 : isS s1 1 := ⟨by decide, by omega⟩
  have i2 : isS (loseS s1 1 true) 2 := ⟨by decide, by show (2 : Int) < (s1.dn : Int); omega⟩
  have i4 : isS (loseS (loseS s1 1 true) 2 true) 4 := ⟨by decide, by show (4 : Int) < (s1.dn : Int); omega⟩
  have hI4 : Intact (loseS (loseS (loseS s1 1 true) 2 true) 4 true) 1 1 (layA 5 B) [1, 2, 4] := lose_intact ok3 (lose_intact ok2 (lose_intact ok1 (hI0.mono (fun d hd => by cases hd)) i1 (by decide)) i2 (by decide)) i4 (by decide)
  have gg : ∀ d : Int, 0 ≤ d → goneS (loseS (loseS (loseS s1 1 true) 2 true) 4 true) d = decide (d = 1 ∨ d = 2 ∨ d = 4) := fun d hd => by
    rw [loseS_gone ok3 i4 true hd, loseS_gone ok2 i2 true hd, loseS_gone ok1 i1 true hd, g1 d]
    by_cases h4 : d = 4
    ·
      simp [h4]
    ·
      by_cases h2 : d = 2
      ·
        simp [h2]
      ·
        by_cases h1 : d = 1 <;> simp [h1, h2, h4]
  have u4 : Up (loseS (loseS (loseS s1 1 true) 2 true) 4 true) := loseS_up (loseS_up (loseS_up u1 _ _) _ _) _ _
  have d4 : (loseS (loseS (loseS s1 1 true) 2 true) 4 true).dn = 5 := d1
  have n4 : (loseS (loseS (loseS s1 1 true) 2 true) 4 true).sn = 3 := n1
  obtain ⟨s4, es4⟩ : ∃ s4, s4 = loseS (loseS (loseS s1 1 true) 2 true) 4 true := ⟨_, rfl⟩
  rw [← es4] at hR8 ok4 hI4 gg u4 d4 n4
  clear es4
  have hgon : bgon s4 1 3 = [1, 2, 4] := by
    have h1 : drvA s4.dn 1 (costA s4.dn (secsA 3)) = [1, 2, 3, 4] := by
      rw [d4, show costA 5 (secsA 3) = 4 from by decide +kernel, drvA, show (List.range (min 4 5)).map (fun c => (((1 + c) % 5 : Nat) : Int)) = [1, 2, 3, 4] from by decide +kernel]
      exact srt_id (by decide)
    show gonA s4 (drvA s4.dn 1 (costA s4.dn (secsA 3))) = _
    rw [h1, gonA]
    simp [gg 1 (by decide), gg 2 (by decide), gg 3 (by decide), gg 4 (by decide)]
  have hrd := intact_gone ok4 (by omega) (f := 1) (a := 1) (b := B) (by rw [d4, hBl, hgon]; exact hI4) (by rw [hBl, hgon]; decide)
  rw [hBl, hgon] at hrd
  refine WL.want rfl rfl rfl (?_)
  refine WL.neqF rfl rfl rfl (by rfl) ?_
  refine WL.pickF rfl rfl rfl (WL.nil (WX.then_normal (WC.cond_false rfl (WC.skip (WX.then_normal (WC.seq (WC.region (?_))))))))
  refine WL.move rfl rfl (?_)
  refine WL.call eg_24 rfl rfl (sum6_calls _ (⟨B.toArray⟩ : ByteArray) (by show B.toArray.size ≤ 4000; rw [List.size_toArray, hBl]; decide)) ?_
  rintro v w9 ⟨rfl, k9⟩
  rw [show (⟨B.toArray⟩ : ByteArray).data.toList = B from rfl]
  have zs_k9 := k9.size
  replace hw := hw.pure k9
  replace hBa := hBa.pure k9
  replace hR8 := hR8.pure k9
  have c4 : costA s4.dn (secsA 3) = 4 := by rw [d4]; decide +kernel
  have hcl := aread_good (by rw [d4]; exact hBa) hR8 u4 (by omega) (by omega) 1 3 (by decide) (by rw [c4, d4, n4]; decide) ⟨(sumB B).toArray⟩ (sum32 B) (by rw [hgon]; decide)
  refine WL.call eg_19 rfl rfl (hcl) ?_
  rintro v w10 ⟨-, hsome, k10⟩
  have hs := hsome [] hrd.1
  rw [hgon, hrd.2.1, hrd.2.2] at hs
  obtain ⟨fa, fc, ba, bc, rfl, hB, hb, -⟩ := hs
  clear hsome
  have zs_k10 := k10.size
  replace hw := hw.pure k10
  replace hBa := hBa.pure k10
  replace hR8 := hR8.pure k10
  refine WL.move rfl rfl (WL.extract rfl rfl rfl (WL.extract rfl rfl rfl (WL.extract rfl rfl rfl (WL.assign rfl rfl (WL.assign rfl rfl (WL.assign rfl rfl (WL.nil (?_))))))))
  refine WX.then_normal (WC.seq (WC.region (WL.move rfl rfl (?_))))
  refine WL.eqlT rfl rfl rfl (by rfl) ?_
  refine WL.move rfl rfl (WL.want rfl rfl rfl (WL.move rfl rfl (WL.want rfl rfl rfl (?_))))
  refine WL.toStr Tryz.underlying26 Tryz.underlying5 Tryz.underlying9 hB.rsl rfl rfl ?_
  refine WL.want rfl rfl rfl (?_)
  refine WL.seqlT rfl rfl rfl (by rfl) ?_
  refine WL.pickT rfl rfl rfl (WL.move rfl rfl (WL.want rfl rfl rfl (WL.move rfl rfl (WL.want rfl rfl rfl (?_)))))
  refine WL.build (e := ei) [1, 2, 4] Tryz.underlying39 Tryz.sizeOf3 Tryz.zeroValue3 rfl rfl rfl (by simp [Value.cells] <;> rfl) (by decide) rfl ?_
  intro a_q70 w_q70 q70 l_q70 z_q70 k_q70
  have zs_k_q70 := k_q70.size
  replace hw := hw.pure k_q70
  replace hBa := hBa.pure k_q70
  replace hR8 := hR8.pure k_q70
  replace hB := hB.pure k_q70
  replace hb := hb.pure k_q70
  refine WL.want rfl rfl rfl (?_)
  refine WL.call eg_54 rfl rfl (same6_calls hb.rsl q70.rsl (by decide)) ?_
  rintro v w11 ⟨rfl, k11⟩
  rw [decide_eq_true rfl]
  have zs_k11 := k11.size
  replace hw := hw.pure k11
  replace hBa := hBa.pure k11
  replace hR8 := hR8.pure k11
  replace hB := hB.pure k11
  replace hb := hb.pure k11
  replace q70 := q70.pure k11
  refine WL.pickT rfl rfl rfl (WL.assign rfl rfl (WL.nil (WX.then_normal (WC.ret (?_)))))
  refine WX.ret1 (.inl rfl) Tryz.results20 rfl ?_
  exact ⟨_, rfl, rfl, hw⟩
end Go.Proofs.YtggecdldnpildaaGreat
namespace Go.HL
open Go.RowKit
theorem WX.ret5 {P : Program} {fn : Func} {R : Ending → World → Prop} {N : Nat} {E : Env} {w : World} {x : Exit} (hx : x = .ret ∨ x = .normal) {t u s p q : Nat} {v1 v2 v3 v4 v5 : Value} (h : fn.results = #[.tmp t, .tmp u, .tmp s, .tmp p, .tmp q]) (hv : E.lookup t = some v1) (hu : E.lookup u = some v2) (hs : E.lookup s = some v3) (hp : E.lookup p = some v4) (hq : E.lookup q = some v5) (hR : R (.returned (.tuple #[v1, v2, v3, v4, v5])) w) : WX (bodyPost P fn R) x N E w :=
  WX.retOf hx _ (fun a ha => by
    have h1 := getD_of ha hv
    have h2 := getD_of ha hu
    have h3 := getD_of ha hs
    have h4 := getD_of ha hp
    have h5 := getD_of ha hq
    simp only [Array.getD_eq_getD_getElem?] at h1 h2 h3 h4 h5
    simp [results, h, h1, h2, h3, h4, h5]) hR
end Go.HL
namespace Go.Proofs.YtggecdldnpildaaGreat
open Go.RowKit Go.HL
set_option maxRecDepth 100000

/-! a block is laid on a rack -/
structure BkV where
  dr : Int
  da : ByteArray
  ad : Int
  fo : Option Addr
  fc : Nat
  fl : List Int
  ho : Option Addr
  hc : Nat
  hl : List Int
def bkcells (x : BkV) : List Value := [vi x.dr, .string x.da, vi x.ad, .slice x.fo x.fl.length x.fc, .slice x.ho x.hl.length x.hc]
def bkval (x : BkV) : Value := .agg (bkcells x).toArray
def datL (s : ByteArray) : ByteArray := if s.extract 0 (min s.size 1024) = ⟨#[]⟩ then ⟨#[120]⟩ else s.extract 0 (min s.size 1024)
theorem datL_len (s : ByteArray) : 1 ≤ (datL s).size ∧ (datL s).size ≤ 1024 := by
  unfold datL
  split
  · exact ⟨by decide, by decide⟩
  · rename_i h
    have h1 : (s.extract 0 (min s.size 1024)).size ≤ 1024 := by rw [ByteArray.size_extract]; omega
    refine ⟨?_, h1⟩
    rcases Nat.eq_zero_or_pos (s.extract 0 (min s.size 1024)).size with h0 | h0
    · exfalso
      refine h ?_
      apply ByteArray.ext
      exact Array.eq_empty_of_size_eq_zero h0
    · exact h0
structure LayS (s : RA) (n addr : Nat) (b : List UInt8) : Prop where
  dn : s.dn = n
  sn : s.sn = 9
  n5 : 5 ≤ n ∧ n ≤ 16
  up : Up s
  gone : ∀ d, goneS s d = false
  waits : s.waits.length = 0
  len : 1 ≤ b.length ∧ b.length ≤ 1024
  fit : addr + costA n (secsA b.length) ≤ n * 7
  intact : Intact s 2 addr (layA n b) []
set_option maxHeartbeats 4000000 in
theorem lay_calls (w : World) (x : BkV) :
    Calls Tryz.prog 22 [bkval x].toArray w (Ret fun v w' => (∃ (R a addr n : Nat) (s : RA), v = .tuple #[ptr R, ptr a, vi addr, .string (datL x.da), .bool true] ∧ LayS s n addr (datL x.da).data.toList ∧ AB w' a R n 2 ∧ RK (fun y => w.heap.size ≤ y ∧ y ≠ a) w' R s ∧ w.heap.size ≤ a) ∧ Chg Nob w w') := by
  have hw := Chg.refl Nob w
  obtain ⟨k, hk⟩ : ∃ k, k = (B64 x.dr % 12).toNat := ⟨_, rfl⟩
  have hk12 : k < 12 := by rw [hk, UInt64.toNat_mod]; exact Nat.mod_lt _ (by decide)
  obtain ⟨n, hn⟩ : ∃ n, n = 5 + k := ⟨_, rfl⟩
  obtain ⟨s0, es0⟩ : ∃ s0, s0 = newS n 9 := ⟨_, rfl⟩
  have u0 : Up s0 := es0 ▸ newS_up n 9
  have sd : s0.dn = n := by rw [es0]; rfl
  have sn : s0.sn = 9 := by rw [es0]; rfl
  have sw : s0.waits.length = 0 := by rw [es0]; rfl
  have sg : ∀ d, goneS s0 d = false := fun d => by rw [es0]; exact newS_gone n 9 d
  obtain ⟨dat, hdat⟩ : ∃ dat, dat = datL x.da := ⟨_, rfl⟩
  have hdl := datL_len x.da
  rw [← hdat] at hdl ⊢
  obtain ⟨b, hb⟩ : ∃ b, b = dat.data.toList := ⟨_, rfl⟩
  have hbl : b.length = dat.size := by rw [hb, Array.length_toList]; rfl
  rw [← hb]
  have h8 := secsA_le (size := dat.size) hdl.2
  have hci := costA_is (n := n) (by omega) h8
  obtain ⟨c, hc⟩ : ∃ c, c = costA n (secsA dat.size) := ⟨_, rfl⟩
  rw [← hc] at hci
  refine Calls.of_WC Tryz.func22 rfl Tryz.ntmps22 (by simp) ?_
  refine WC.seq (WC.region (?_))
  refine WL.box rfl rfl ?_
  intro gb wb hge hlt hbb kb
  have zs_kb := kb.size
  replace hw := hw.pure kb
  have hbk : Blk _ gb 47 (bkcells x) := hbb
  refine WL.assign rfl rfl (WL.assign rfl rfl (WL.assign rfl rfl (WL.assign rfl rfl (WL.assign rfl rfl (WL.nil (WX.then_normal (WC.seq (?_))))))))
  refine WC.region (WL.fieldAddr (fld_47_0) rfl rfl (WL.loadB Tryz.isAgg3 hbk rfl rfl rfl (WL.c_i64_u64 Tryz.underlying3 Tryz.underlying23 rfl rfl (WL.num rfl rfl (n_rem64 _ _ _ 12 (by decide)) rfl (?_)))))
  refine WL.c_u64_i64s (n := k) Tryz.underlying23 Tryz.underlying3 rfl ⟨hk.symm, by omega⟩ rfl ?_
  refine WL.add64 rfl rfl (by constructor <;> omega) rfl ?_
  rw [show (5 : Int) + (k : Int) = (n : Int) from by omega]
  refine WL.assign rfl rfl (WL.nil (WX.then_normal (WC.seq (WC.region (WL.move rfl rfl (?_))))))
  have zw0 := hw.size
  refine WL.call eg_13 rfl rfl (New_calls _ (dn := n) (sn := 9) (by omega) (by decide)) ?_
  rintro v w2 ⟨⟨R, rfl, hR⟩, k2⟩
  rw [← es0] at hR
  replace hR := (hR.mono (A' := fun y => w.heap.size ≤ y) (fun y hy => by omega)).old
  have zs_k2 := k2.size
  replace hw := hw.pure k2
  replace hbk := hbk.pure k2
  refine WL.move rfl rfl (WL.extract rfl rfl rfl (WL.extract rfl rfl rfl (WL.assign rfl rfl (WL.assign rfl rfl (WL.nil (WX.then_normal (WC.seq (?_))))))))
  refine WC.region (WL.move rfl rfl (?_))
  have lR2 := hR.aR
  refine WL.call eg_14 rfl rfl (anew_calls hR 2 (by omega) (by omega)) ?_
  rintro v w3 ⟨⟨a, rfl, hBa, hage⟩, k3⟩
  rw [sd] at hBa
  have zw2 := hw.size
  have zs_k3 := k3.size
  replace hw := hw.pure k3
  replace hbk := hbk.pure k3
  replace hR := hR.pure k3
  refine WL.move rfl rfl (WL.extract rfl rfl rfl (WL.extract rfl rfl rfl (WL.assign rfl rfl (WL.assign rfl rfl (WL.nil (WX.then_normal (WC.seq (?_))))))))
  refine WC.region (WL.fieldAddr (fld_47_1) rfl rfl (WL.loadB Tryz.isAgg9 hbk rfl rfl rfl (WL.fieldAddr (fld_47_1) rfl rfl (WL.loadB Tryz.isAgg9 hbk rfl rfl rfl (WL.lens Tryz.underlying9 rfl rfl (?_))))))
  refine WL.mini rfl rfl rfl ?_
  rw [show (if (1024 : Int) < (x.da.size : Int) then (1024 : Int) else (x.da.size : Int)) = ((min x.da.size 1024 : Nat) : Int) from by split <;> omega]
  refine WL.sslice (l := 0) (h := min x.da.size 1024) (k := .i64) Tryz.underlying9 rfl (.inr ⟨rfl, rfl⟩) (.inl rfl) ⟨Nat.zero_le _, by omega⟩ rfl ?_
  refine WL.assign rfl rfl (WL.nil (WX.then_normal (WC.seq (WC.seq (WC.region (WL.move rfl rfl (?_)))))))
  refine WL.seql rfl rfl rfl ?_
  refine WL.nil (WX.then_normal (?_))
  refine WC.cutR (σ := Unit) (fun _ => [(1, ptr gb), (7, vi n), (8, ptr R), (9, vi 0), (10, ptr a), (11, vi 0), (12, .string dat)]) (fun _ w' => Blk w' gb 47 (bkcells x) ∧ RK (fun y => w.heap.size ≤ y ∧ y < w2.heap.size) w' R s0 ∧ AB w' a R n 2 ∧ Chg Nob w w') ?_ ?_
  rotate_left
  ·
    first | refine WC.cond_dec rfl (fun hc40 => ?_) (fun hc40 => ?_) | refine WC.cond_split rfl (fun hc40 => ?_) (fun hc40 => ?_)
    ·
      refine WC.region (WL.assign rfl rfl (WL.nil (?_)))
      exact WX.cut () ⟨rfl, rfl, rfl, rfl, rfl, rfl, by first | (rw [hdat, datL, if_pos hc40]; rfl) | (rw [hdat, datL, if_neg hc40]; rfl), trivial⟩ ⟨hbk, hR, hBa, hw⟩
    ·
      refine WC.skip (?_)
      exact WX.cut () ⟨rfl, rfl, rfl, rfl, rfl, rfl, by first | (rw [hdat, datL, if_pos hc40]; rfl) | (rw [hdat, datL, if_neg hc40]; rfl), trivial⟩ ⟨hbk, hR, hBa, hw⟩
  ·
    rintro ⟨⟩ w4 ⟨hbk, hR, hBa, hw⟩
    refine WX.then_normal (WC.seq (WC.region (WL.move rfl rfl (WL.move rfl rfl (WL.lens Tryz.underlying9 rfl rfl (?_))))))
    refine WL.call eg_15 rfl rfl (cost_good hBa (by omega) dat.size hdl) ?_
    rintro v w5 ⟨rfl, k5⟩
    rw [← hc]
    have zs_k5 := k5.size
    replace hbk := hbk.pure k5
    replace hR := hR.pure k5
    replace hBa := hBa.pure k5
    replace hw := hw.pure k5
    refine WL.move rfl rfl (WL.extract rfl rfl rfl (WL.extract rfl rfl rfl (WL.assign rfl rfl (WL.assign rfl rfl (WL.nil (WX.then_normal (WC.seq (?_))))))))
    refine WC.seq (WC.region (WL.move rfl rfl (?_)))
    refine WL.neqF rfl rfl rfl (by first | rfl | omega | decide) ?_
    refine WL.move rfl rfl (WL.want rfl rfl rfl (WL.move rfl rfl (WL.want rfl rfl rfl (?_))))
    refine WL.neqF rfl rfl rfl (by first | rfl | omega | decide) ?_
    refine WL.pickF rfl rfl rfl (WL.move rfl rfl (WL.want rfl rfl rfl (WL.move rfl rfl (WL.want rfl rfl rfl (?_)))))
    refine WL.neqF rfl rfl rfl (by first | rfl | omega | decide) ?_
    refine WL.pickF rfl rfl rfl (WL.move rfl rfl (WL.want rfl rfl rfl (WL.move rfl rfl (WL.want rfl rfl rfl (WL.move rfl rfl (WL.want rfl rfl rfl (?_)))))))
    refine WL.call eg_16 rfl rfl (Cells_calls (s := s0) (by rw [sd]; exact hBa) hR (by omega)) ?_
    rintro v w6 ⟨rfl, k6⟩
    rw [show s0.dn * (s0.sn - 2) = n * 7 from by rw [sd, sn]]
    have zs_k6 := k6.size
    replace hbk := hbk.pure k6
    replace hR := hR.pure k6
    replace hBa := hBa.pure k6
    replace hw := hw.pure k6
    refine WL.want rfl rfl rfl (?_)
    refine WL.gtrF rfl rfl rfl (by first | rfl | omega | decide) ?_
    refine WL.pickF rfl rfl rfl (WL.nil (WX.then_normal (WC.cond_false rfl (WC.skip (WX.then_normal (WC.seq (?_)))))))
    obtain ⟨m, hmm⟩ : ∃ m, m = n * 7 - c + 1 := ⟨_, rfl⟩
    have hB64 : (B64 (m : Int)).toNat = m := B64_nat (by omega)
    obtain ⟨addr, haddr⟩ : ∃ a, a = (B64 x.ad % B64 (m : Int)).toNat := ⟨_, rfl⟩
    have hatm : addr < m := by rw [haddr, UInt64.toNat_mod, hB64]; exact Nat.mod_lt _ (by omega)
    refine WC.draw (Nob) [0, 1, 2, 3, 4, 5, 6, 7, 8, 9, 10, 11] [] mixed rfl rfl (fun wd_1 kd_1 zd_1 => ?_)
    have zs_kd_1 := kd_1.size
    replace hbk := hbk.pure kd_1
    replace hR := hR.pure kd_1
    replace hBa := hBa.pure kd_1
    replace hw := hw.pure kd_1
    apply DQ.step (E' := [(1, _)])
    case ho => rfl
    case hs => exact ⟨rfl, trivial⟩
    case hk => rfl
    case h1 =>
      intro wq_2 kq_2
      refine WL.fieldAddr (fld_47_2) rfl rfl (?_)
      refine WL.nil ?_
      exact WX.one ⟨rfl, by first | exact Chg.refl _ _ | assumption⟩
    apply DQ.step (E' := [(64, _)])
    case ho => rfl
    case hs => exact ⟨rfl, trivial⟩
    case hk => rfl
    case h1 =>
      intro wq_3 kq_3
      have zs_kq_3 := kq_3.size
      replace hbk := hbk.pure kq_3
      replace hR := hR.pure kq_3
      replace hBa := hBa.pure kq_3
      replace hw := hw.pure kq_3
      refine WL.loadB Tryz.isAgg3 hbk rfl rfl rfl (?_)
      refine WL.nil ?_
      exact WX.one ⟨rfl, by first | exact Chg.refl _ _ | assumption⟩
    apply DQ.step (E' := [(65, _)])
    case ho => rfl
    case hs => exact ⟨rfl, trivial⟩
    case hk => rfl
    case h1 =>
      intro wq_4 kq_4
      have zs_kq_4 := kq_4.size
      replace hbk := hbk.pure kq_4
      replace hR := hR.pure kq_4
      replace hBa := hBa.pure kq_4
      replace hw := hw.pure kq_4
      refine WL.c_i64_u64 Tryz.underlying3 Tryz.underlying23 rfl rfl (?_)
      refine WL.nil ?_
      exact WX.one ⟨rfl, by first | exact Chg.refl _ _ | assumption⟩
    apply DQ.step (E' := [(10, _)])
    case ho => rfl
    case hs => exact ⟨rfl, trivial⟩
    case hk => rfl
    case h1 =>
      intro wq_5 kq_5
      refine WL.move rfl rfl (?_)
      refine WL.nil ?_
      exact WX.one ⟨rfl, by first | exact Chg.refl _ _ | assumption⟩
    apply DQ.step (E' := [(67, _)])
    case ho => rfl
    case hs => exact ⟨rfl, trivial⟩
    case hk => rfl
    case h1 =>
      intro wq_6 kq_6
      have zs_kq_6 := kq_6.size
      replace hbk := hbk.pure kq_6
      replace hR := hR.pure kq_6
      replace hBa := hBa.pure kq_6
      replace hw := hw.pure kq_6
      refine WL.call eg_16 rfl rfl (Cells_calls (s := s0) (by rw [sd]; exact hBa) hR (by omega)) ?_
      rintro v w6 ⟨rfl, k6⟩
      rw [show s0.dn * (s0.sn - 2) = n * 7 from by rw [sd, sn]]
      have zs_k6 := k6.size
      replace hbk := hbk.pure k6
      replace hR := hR.pure k6
      replace hBa := hBa.pure k6
      replace hw := hw.pure k6
      refine WL.nil ?_
      exact WX.one ⟨rfl, by first | exact Chg.refl _ _ | assumption⟩
    apply DQ.step (E' := [(13, _)])
    case ho => rfl
    case hs => exact ⟨rfl, trivial⟩
    case hk => rfl
    case h1 =>
      intro wq_7 kq_7
      refine WL.move rfl rfl (?_)
      refine WL.nil ?_
      exact WX.one ⟨rfl, by first | exact Chg.refl _ _ | assumption⟩
    apply DQ.step (E' := [(68, _), (69, _)])
    case ho => rfl
    case hs => exact ⟨rfl, rfl, trivial⟩
    case hk => rfl
    case h1 =>
      intro wq_8 kq_8
      refine WL.sub64 rfl rfl (by constructor <;> omega) rfl ?_
      refine WL.nil ?_
      exact WX.one ⟨rfl, by first | exact Chg.refl _ _ | assumption⟩
    apply DQ.step (E' := [(70, _)])
    case ho => rfl
    case hs => exact ⟨rfl, trivial⟩
    case hk => rfl
    case h1 =>
      intro wq_9 kq_9
      refine WL.add64 rfl rfl (by constructor <;> omega) rfl ?_
      rw [show ((n * 7 : Nat) : Int) - (c : Int) + 1 = (m : Int) from by omega]
      refine WL.nil ?_
      exact WX.one ⟨rfl, by first | exact Chg.refl _ _ | assumption⟩
    apply DQ.step (E' := [(71, _)])
    case ho => rfl
    case hs => exact ⟨rfl, trivial⟩
    case hk => rfl
    case h1 =>
      intro wq_10 kq_10
      have zs_kq_10 := kq_10.size
      replace hbk := hbk.pure kq_10
      replace hR := hR.pure kq_10
      replace hBa := hBa.pure kq_10
      replace hw := hw.pure kq_10
      refine WL.c_i64_u64 Tryz.underlying3 Tryz.underlying23 rfl rfl (?_)
      refine WL.nil ?_
      exact WX.one ⟨rfl, by first | exact Chg.refl _ _ | assumption⟩
    apply DQ.step (E' := [(66, _), (72, _)])
    case ho => rfl
    case hs => exact ⟨rfl, rfl, trivial⟩
    case hk => rfl
    case h1 =>
      intro wq_11 kq_11
      refine WL.num rfl rfl (n_rem64 _ _ _ _ (by rw [hB64]; omega)) rfl ?_
      refine WL.nil ?_
      exact WX.one ⟨rfl, by first | exact Chg.refl _ _ | assumption⟩
    apply DQ.step (E' := [(73, _)])
    case ho => rfl
    case hs => exact ⟨rfl, trivial⟩
    case hk => rfl
    case h1 =>
      intro wq_12 kq_12
      have zs_kq_12 := kq_12.size
      replace hbk := hbk.pure kq_12
      replace hR := hR.pure kq_12
      replace hBa := hBa.pure kq_12
      replace hw := hw.pure kq_12
      refine WL.c_u64_i64s (n := addr) Tryz.underlying23 Tryz.underlying3 rfl ⟨haddr.symm, by omega⟩ rfl ?_
      refine WL.nil ?_
      exact WX.one ⟨rfl, by first | exact Chg.refl _ _ | assumption⟩
    apply DQ.step (E' := [(74, _)])
    case ho => rfl
    case hs => exact ⟨rfl, trivial⟩
    case hk => rfl
    case h1 =>
      intro wq_13 kq_13
      refine WL.assign rfl rfl (?_)
      refine WL.nil ?_
      exact WX.one ⟨rfl, by first | exact Chg.refl _ _ | assumption⟩
    refine DQ.done (fun _ => ?_)
    refine DL.done (fun we_14 ke_14 => ?_)
    have zs_ke_14 := ke_14.size
    replace hbk := hbk.pure ke_14
    replace hR := hR.pure ke_14
    replace hBa := hBa.pure ke_14
    replace hw := hw.pure ke_14
    refine WX.then_normal (WC.seq (WC.region (WL.move rfl rfl (WL.move rfl rfl (WL.move rfl rfl (WL.move rfl rfl (WL.move rfl rfl (?_))))))))
    refine WL.move rfl rfl (WL.move rfl rfl (?_))
    have zw7 := hw.size
    refine WL.toBytes Tryz.underlying9 Tryz.underlying26 Tryz.underlying5 rfl (by omega) rfl ?_
    intro a_hq c_hq w_hq hq k_hq z_hq
    have zs_k_hq := k_hq.size
    replace hbk := hbk.pure k_hq
    replace hR := hR.pure k_hq
    replace hBa := hBa.pure k_hq
    replace hw := hw.pure k_hq
    rw [← hb] at hq ⊢
    have l7 := hBa.lt
    have zw8 := hw.size
    refine WL.call eg_17 rfl rfl (awrite_good (s := s0) (by rw [sd]; exact hBa) (fun h => by have := h.2; omega) hR (fun y hy => by have h9 := hy.2; have := k2.size; omega) u0 (by omega) (by omega) addr hq.rsl (by omega) (by rw [sd, sn, hbl, ← hc]; omega) (by omega) (by rw [bgon_none sg]; decide)) ?_
    rintro v w9 ⟨rfl, hR9, k9⟩
    replace hBa := hBa.chg k9 (fun h => by have := h.2; omega)
    replace hw := hw.chg k9 (fun y h1 h2 => by have h3 : w.heap.size ≤ y := h2.1; omega)
    rw [sd] at hR9
    have hI := wrT_intact s0 2 addr (layA n b) (bad := []) (fun c h1 h2 hg => by rw [sg] at hg; cases hg)
    obtain ⟨d1, n1, -, -⟩ := wrT_dn s0 2 addr (layA n b) (layA n b).length
    have u1 := wrT_up u0 2 addr (layA n b) (layA n b).length
    have g1 : ∀ d, goneS (wrT s0 2 addr (layA n b) (layA n b).length) d = false := fun d => by rw [wrT_gone]; exact sg d
    obtain ⟨s1, es1⟩ : ∃ s1, s1 = wrT s0 2 addr (layA n b) (layA n b).length := ⟨_, rfl⟩
    rw [← es1] at hI hR9 d1 n1 u1 g1
    clear es1
    refine WL.eqlT rfl rfl rfl (by first | rfl | omega | decide) ?_
    refine WL.move rfl rfl (WL.want rfl rfl rfl (WL.move rfl rfl (WL.want rfl rfl rfl (?_))))
    refine WL.call eg_23 rfl rfl (FlushU hR9 u1) ?_
    rintro v w10 ⟨rfl, hR10, k10⟩
    replace hBa := hBa.chg k10 (fun h => by rcases h with h | h <;> omega)
    replace hw := hw.chg k10 (fun y h1 h2 => by rcases h2 with h | h <;> omega)
    refine WL.want rfl rfl rfl (?_)
    refine WL.eqlT rfl rfl rfl (by first | rfl | omega | decide) ?_
    refine WL.pickT rfl rfl rfl (WL.assign rfl rfl (WL.assign rfl rfl (WL.assign rfl rfl (WL.assign rfl rfl (WL.assign rfl rfl (WL.nil (WX.then_normal (?_))))))))
    refine WC.ret (?_)
    refine WX.ret5 (.inl rfl) Tryz.results22 rfl rfl rfl rfl rfl ?_
    exact ⟨_, rfl, ⟨R, a, addr, n, allS s1, rfl, ⟨by show s1.dn = n; rw [d1, sd], by show s1.sn = 9; rw [n1, sn], by omega, allS_up u1, g1, rfl, by omega, by rw [hbl, ← hc]; omega, all_intact hI⟩, hBa, hR10.mono (fun y hy => by rcases hy with h | h <;> omega), by omega⟩, hw⟩
end Go.Proofs.YtggecdldnpildaaGreat
namespace Go.Proofs.YtggecdldnpildaaGreat
open Go.ChangeShapes Go.WideShapes Go.ChangeAt Go.RowKit Go.Deep Go.HL
set_option maxRecDepth 100000
set_option maxRecDepth 10000
/-! an argument that says a block, where it lies and what befalls it -/
structure BkS (w : World) (x : BkV) : Prop where
  fl : RSl (· < w.heap.size) w ei x.fo x.fc x.fl
  hl : RSl (· < w.heap.size) w ei x.ho x.hc x.hl
  fb : ∀ y ∈ x.fl, -9223372036854775808 ≤ y ∧ y ≤ 9223372036854775807
  hb : ∀ y ∈ x.hl, -9223372036854775808 ≤ y ∧ y ≤ 9223372036854775807
section
variable {H : Type} {enc : TypeId × Value → H} {W : World}
theorem open_block {base : Nat} {v : Value} {d : DataW H} {p : List MemPlace} (hv : Value.okWide Tryz.prog W .any base 47 v) (h : DataW.Trod enc Tryz.prog W 0 (fun _ => true) true 47 v d p) :
    ∃ x : BkV, v = bkval x ∧ BkS W x ∧ True := by
  unfold Value.okWide at hv
  rw [Tryz.underlying47] at hv
  obtain ⟨ca, rfl, hsz, _⟩ := hv
  obtain ⟨n, hn⟩ := h
  have hl : ca.toList.length = 5 := by rw [Array.length_toList, hsz]; kernel_rfl
  have hn2 : DataW.trod enc Tryz.prog W 0 (fun _ => true) true n 47 ca.toList = some (d, p) := hn
  obtain ⟨cs, hcs⟩ : ∃ cs, cs = ca.toList := ⟨_, rfl⟩
  have hca : ca = cs.toArray := by rw [hcs]
  rw [← hcs] at hn2 hl
  rw [hca]
  clear hca hcs hsz hn
  obtain ⟨xs, m, _, he, _, hx, hf⟩ := DataW.trod_struct Tryz.underlying47 hn2
  match cs, hl with
  | [c0, c1, c2, c3, c4], _ =>
    match xs, hx with
    | [y0, y1, y2, y3, y4], _ =>
      have f0 : DataW.trod enc Tryz.prog W 0 (fun _ => true) true m 3 (([c0, c1, c2, c3, c4].drop 0).take (Tryz.prog.cellsOf 3)) = some y0 := hf 0 _ rfl
      have f1 : DataW.trod enc Tryz.prog W 0 (fun _ => true) true m 9 (([c0, c1, c2, c3, c4].drop 1).take (Tryz.prog.cellsOf 9)) = some y1 := hf 1 _ rfl
      have f2 : DataW.trod enc Tryz.prog W 0 (fun _ => true) true m 3 (([c0, c1, c2, c3, c4].drop 2).take (Tryz.prog.cellsOf 3)) = some y2 := hf 2 _ rfl
      have f3 : DataW.trod enc Tryz.prog W 0 (fun _ => true) true m 39 (([c0, c1, c2, c3, c4].drop 3).take (Tryz.prog.cellsOf 39)) = some y3 := hf 3 _ rfl
      have f4 : DataW.trod enc Tryz.prog W 0 (fun _ => true) true m 39 (([c0, c1, c2, c3, c4].drop 4).take (Tryz.prog.cellsOf 39)) = some y4 := hf 4 _ rfl
      rw [show Tryz.prog.cellsOf 3 = 1 from by kernel_rfl] at f0 f2
      rw [show Tryz.prog.cellsOf 9 = 1 from by kernel_rfl] at f1
      rw [show Tryz.prog.cellsOf 39 = 1 from by kernel_rfl] at f3 f4
      obtain ⟨k0, e0, _, _⟩ := DataW.trod_int Tryz.underlying3 f0
      obtain ⟨s1, e1, _, _⟩ := DataW.trod_string Tryz.underlying9 f1
      obtain ⟨k2, e2, _, _⟩ := DataW.trod_int Tryz.underlying3 f2
      obtain ⟨a3, c3', l3, e3, h3, q3⟩ := open_trod Tryz.underlying39 ei (fun x _ => -9223372036854775808 ≤ x ∧ x ≤ 9223372036854775807) (by kernel_rfl) (fun n cs y a b c => el_i64 Tryz.underlying3 n cs y a b c) f3
      obtain ⟨a4, c4', l4, e4, h4, q4⟩ := open_trod Tryz.underlying39 ei (fun x _ => -9223372036854775808 ≤ x ∧ x ≤ 9223372036854775807) (by kernel_rfl) (fun n cs y a b c => el_i64 Tryz.underlying3 n cs y a b c) f4
      injection e0 with e0
      injection e1 with e1
      injection e2 with e2
      injection e3 with e3
      injection e4 with e4
      subst e0; subst e1; subst e2; subst e3; subst e4
      have key : ∀ {y : DataW H × List MemPlace} {l : List Int}, (y.1 = .nil ∧ l = [] ∨ ∃ el sp, y.1 = .slice el sp ∧ l.length = el.length ∧ ∀ (i : Nat) (x : Int), l[i]? = some x → ∃ d, el[i]? = some d ∧ (-9223372036854775808 ≤ x ∧ x ≤ 9223372036854775807)) → ∀ x ∈ l, -9223372036854775808 ≤ x ∧ x ≤ 9223372036854775807 := by
        intro y l h x hx
        rcases h with ⟨_, h6⟩ | ⟨el, sp, _, _, h6⟩
        · rw [h6] at hx
          cases hx
        · obtain ⟨i, hil, rfl⟩ := List.getElem_of_mem hx
          obtain ⟨d, _, h7⟩ := h6 i _ (List.getElem?_eq_getElem hil)
          exact h7
      exact ⟨⟨k0, s1, k2, a3, c3', l3, a4, c4', l4⟩, rfl, ⟨h3, h4, key q3, key q4⟩, trivial⟩
theorem reach_block {d : DataW H} {ts : List TypeId} {ds : List (DataW H)} {j : Nat} (_ : (DataW.weightsEach Tryz.prog ts ds).all (· ≤ reachBytes) = true) (_ : ts[j]? = some 47) (_ : ds[j]? = some d) (_ : True) : True := trivial
end
end Go.Proofs.YtggecdldnpildaaGreat
namespace Go.Proofs.YtggecdldnpildaaGreat
open Go.RowKit Go.HL
set_option maxRecDepth 100000

/-! two blocks apart: the law -/
/-- a block is read where all that has failed is gone -/
theorem aread_gone {A : Nat → Prop} {w : World} {a R f : Nat} {s : RA} (hB : AB w a R s.dn f) (h : RK A w R s) (hu : Up s) (h5 : 5 ≤ s.dn) (hf : f < s.sn) (addr : Nat) (b : List UInt8) (hs : 1 ≤ b.length ∧ b.length ≤ 1024) (ha : addr + costA s.dn (secsA b.length) ≤ s.dn * (s.sn - f)) (hI : Intact s f addr (layA s.dn b) (bgon s addr b.length)) (hg : (bgon s addr b.length).length ≤ 3) :
    Calls Tryz.prog 19 [ptr a, vi addr, vi b.length, .string ⟨(sumB b).toArray⟩].toArray w (Ret fun v w' => (∃ fa fc ba bc, v = .tuple #[.slice fa b.length fc, .slice ba (bgon s addr b.length).length bc, vi 0] ∧ Row (w.heap.size ≤ ·) w' 5 eb fa fc b ∧ Row (w.heap.size ≤ ·) w' 3 ei ba bc (bgon s addr b.length)) ∧ Chg Nob w w') := by
  have hrd := intact_gone h.ok h5 hI hg
  refine (aread_good hB h hu h5 hf addr b.length hs ha ⟨(sumB b).toArray⟩ (sum32 b) hg).mono ?_
  rintro e w' ⟨v, rfl, -, hsome, k⟩
  have hx := hsome [] hrd.1
  rw [hrd.2.1, hrd.2.2] at hx
  obtain ⟨fa, fc, ba, bc, rfl, h1, h2, -⟩ := hx
  exact ⟨_, rfl, ⟨fa, fc, ba, bc, rfl, h1, h2⟩, k⟩
theorem apart_intact {s : RA} {f a b : Nat} {cells cells2 : List (List UInt8)} {bad : List Int} (h : Intact s f a cells bad) (hd : ∀ j i, j < cells.length → i < cells2.length → a + j ≠ b + i) : Intact (wrT s f b cells2 cells2.length) f a cells bad := fun j c hc hn => by
  have hj := (List.getElem?_eq_some_iff.1 hc).1
  rw [(wrT_dn s f b cells2 cells2.length).1] at hn ⊢
  obtain ⟨h1, h2⟩ := h j c hc hn
  rw [wrT_gone, wrT_other cells2.length (fun i hi e => hd j i hj hi (plN_inj e))]
  exact ⟨h1, h2⟩
set_option maxHeartbeats 8000000 in
theorem arrayApart_calls {w : World} (x : BkV) (o : ByteArray) :
    Calls Tryz.prog 5 [bkval x, .string o].toArray w (Ret fun v w' => v = .bool true ∧ Chg Nob w w') := by
  have hw := Chg.refl Nob w
  obtain ⟨ot, hot⟩ : ∃ ot, ot = o.extract 0 (min o.size 300) := ⟨_, rfl⟩
  have hotl : ot.size ≤ 300 := by rw [hot, ByteArray.size_extract]; omega
  refine Calls.of_WC Tryz.func5 rfl Tryz.ntmps5 (by simp) ?_
  refine WC.seq (WC.region (?_))
  refine WL.box rfl rfl ?_
  intro gb wb hge hlt hbb kb
  have zs_kb := kb.size
  replace hw := hw.pure kb
  have hbk : Blk _ gb 47 (bkcells x) := hbb
  refine WL.assign rfl rfl (WL.nil (WX.then_normal (WC.seq (WC.seq (WC.region (?_))))))
  refine WL.call eg_20 rfl rfl (known6_calls _) ?_
  rintro v w1 ⟨rfl, k1⟩
  have zs_k1 := k1.size
  replace hw := hw.pure k1
  replace hbk := hbk.pure k1
  refine WL.not rfl rfl (WL.nil (WX.then_normal (WC.cond_false rfl (WC.skip (WX.then_normal (WC.seq (WC.region (?_))))))))
  refine WL.loadsB Tryz.isAgg47 Tryz.sizeOf47 hbk rfl (by rfl) rfl (?_)
  have zw0 := hw.size
  refine WL.call eg_22 rfl rfl (lay_calls _ x) ?_
  rintro v w2 ⟨⟨R, a, addr, n, s, rfl, hL, hBa, hR, hage⟩, k2⟩
  have zs_k2 := k2.size
  replace hw := hw.pure k2
  replace hR := hR.old
  refine WL.move rfl rfl (WL.extract rfl rfl rfl (WL.extract rfl rfl rfl (WL.extract rfl rfl rfl (WL.extract rfl rfl rfl (WL.extract rfl rfl rfl (WL.assign rfl rfl (WL.assign rfl rfl (?_))))))))
  refine WL.assign rfl rfl (WL.assign rfl rfl (WL.assign rfl rfl (WL.nil (WX.then_normal (WC.seq (WC.region (WL.move rfl rfl (?_))))))))
  refine WL.move rfl rfl (WL.lens Tryz.underlying9 rfl rfl (?_))
  refine WL.mini rfl rfl rfl ?_
  rw [show (if (300 : Int) < (o.size : Int) then (300 : Int) else (o.size : Int)) = ((min o.size 300 : Nat) : Int) from by split <;> omega]
  refine WL.sslice (l := 0) (h := min o.size 300) (k := .i64) Tryz.underlying9 rfl (.inr ⟨rfl, rfl⟩) (.inl rfl) ⟨Nat.zero_le _, by omega⟩ rfl ?_
  rw [← hot]
  refine WL.assign rfl rfl (WL.nil (WX.then_normal (WC.seq (WC.seq (WC.region (WL.move rfl rfl (?_)))))))
  refine WL.not rfl rfl ?_
  refine WL.move rfl rfl (WL.want rfl rfl rfl (WL.move rfl rfl (WL.want rfl rfl rfl (?_))))
  by_cases ho : ot = ⟨#[]⟩
  ·
    refine WL.seqlT rfl rfl rfl (ho) ?_
    refine WL.pickF rfl rfl rfl (WL.nil (WX.then_normal (WC.cond_true rfl (WC.seq (WC.region (WL.move rfl rfl (WL.assign rfl rfl (?_))))))))
    refine WL.nil (WX.then_normal (WC.ret (WX.then_ret (?_))))
    refine WX.ret1 (.inl rfl) Tryz.results5 rfl ?_
    exact ⟨_, rfl, rfl, hw⟩
  ·
    refine WL.seqlF rfl rfl rfl (ho) ?_
    have hot1 : 1 ≤ ot.size := by
      rcases Nat.eq_zero_or_pos ot.size with h0 | h0
      ·
        exfalso
        refine ho ?_
        apply ByteArray.ext
        exact Array.eq_empty_of_size_eq_zero h0
      ·
        exact h0
    refine WL.pickF rfl rfl rfl (WL.nil (WX.then_normal (WC.cond_false rfl (WC.skip (WX.then_normal (WC.seq (WC.region (?_))))))))
    refine WL.move rfl rfl (WL.move rfl rfl (WL.lens Tryz.underlying9 rfl rfl (?_)))
    obtain ⟨dat, hdat⟩ : ∃ dat, dat = datL x.da := ⟨_, rfl⟩
    rw [← hdat] at hL ⊢
    obtain ⟨b, hb⟩ : ∃ b, b = dat.data.toList := ⟨_, rfl⟩
    have hbl : b.length = dat.size := by rw [hb, Array.length_toList]; rfl
    obtain ⟨b2, hb2⟩ : ∃ b2, b2 = ot.data.toList := ⟨_, rfl⟩
    have hbl2 : b2.length = ot.size := by rw [hb2, Array.length_toList]; rfl
    rw [← hb] at hL
    obtain ⟨l1, l2, l3, l4, l5, l6, l7, l8, l9⟩ := hL
    subst l1
    have h8 := secsA_le l7.2
    have hci := costA_is l3 h8
    have h82 := secsA_le (size := b2.length) (by omega)
    have hci2 := costA_is l3 h82
    obtain ⟨c, hc⟩ : ∃ c, c = costA s.dn (secsA b.length) := ⟨_, rfl⟩
    obtain ⟨m, hm⟩ : ∃ m, m = costA s.dn (secsA b2.length) := ⟨_, rfl⟩
    rw [← hc] at hci l8
    rw [← hm] at hci2
    have e7 : s.dn * (s.sn - 2) = s.dn * 7 := by rw [l2]
    refine WL.call eg_15 rfl rfl (cost_good hBa l3 dat.size (by omega)) ?_
    rintro v w3 ⟨rfl, k3⟩
    rw [← hbl, ← hc]
    have zs_k3 := k3.size
    replace hw := hw.pure k3
    replace hBa := hBa.pure k3
    replace hR := hR.pure k3
    refine WL.move rfl rfl (WL.extract rfl rfl rfl (WL.extract rfl rfl rfl (WL.assign rfl rfl (WL.assign rfl rfl (WL.nil (WX.then_normal (WC.seq (?_))))))))
    refine WC.region (WL.move rfl rfl (WL.move rfl rfl (WL.lens Tryz.underlying9 rfl rfl (?_))))
    refine WL.call eg_15 rfl rfl (cost_good hBa l3 ot.size (by omega)) ?_
    rintro v w4 ⟨rfl, k4⟩
    rw [← hbl2, ← hm]
    have zs_k4 := k4.size
    replace hw := hw.pure k4
    replace hBa := hBa.pure k4
    replace hR := hR.pure k4
    refine WL.move rfl rfl (WL.extract rfl rfl rfl (WL.extract rfl rfl rfl (WL.assign rfl rfl (WL.assign rfl rfl (WL.nil (WX.then_normal (WC.seq (?_))))))))
    refine WC.seq (WC.region (WL.move rfl rfl (?_)))
    refine WL.neqF rfl rfl rfl (by rfl) ?_
    refine WL.move rfl rfl (WL.want rfl rfl rfl (WL.move rfl rfl (WL.want rfl rfl rfl (?_))))
    refine WL.neqF rfl rfl rfl (by rfl) ?_
    refine WL.pickF rfl rfl rfl (WL.nil (WX.then_normal (WC.cond_false rfl (WC.skip (WX.then_normal (WC.seq (WC.region (?_))))))))
    refine WL.move rfl rfl (WL.move rfl rfl (?_))
    refine WL.add64 rfl rfl (by constructor <;> omega) rfl ?_
    refine WL.assign rfl rfl (WL.nil (WX.then_normal (WC.seq (WC.seq (WC.region (WL.move rfl rfl (WL.move rfl rfl (?_))))))))
    refine WL.add64 rfl rfl (by constructor <;> omega) rfl ?_
    refine WL.move rfl rfl (?_)
    refine WL.call eg_16 rfl rfl (Cells_calls hBa hR (by omega)) ?_
    rintro v w5 ⟨rfl, k5⟩
    rw [e7]
    have zs_k5 := k5.size
    replace hw := hw.pure k5
    replace hBa := hBa.pure k5
    replace hR := hR.pure k5
    refine WL.gtr rfl rfl rfl ?_
    refine WL.nil (WX.then_normal (?_))
    refine WC.cutR (σ := Int) (fun t => [(1, .string ot), (5, ptr R), (6, ptr a), (7, vi addr), (8, .string dat), (14, vi t)]) (fun t w' => ((t = (addr : Int) + c ∧ t + m ≤ ((s.dn * 7 : Nat) : Int)) ∨ t = (addr : Int) - m) ∧ AB w' a R s.dn 2 ∧ RK (fun y => (w1.heap.size ≤ y ∧ y ≠ a) ∧ y < w2.heap.size) w' R s ∧ Chg Nob w w' ∧ w2.heap.size ≤ w'.heap.size) ?_ ?_
    rotate_left
    ·
      first | refine WC.cond_dec rfl (fun hc69 => ?_) (fun hc69 => ?_) | refine WC.cond_split rfl (fun hc69 => ?_) (fun hc69 => ?_)
      ·
        refine WC.region (WL.move rfl rfl (WL.move rfl rfl (?_)))
        refine WL.sub64 rfl rfl (by constructor <;> omega) rfl ?_
        refine WL.assign rfl rfl (WL.nil (?_))
        exact WX.cut _ ⟨rfl, rfl, rfl, rfl, rfl, rfl, trivial⟩ ⟨(by exact .inr rfl), hBa, hR, hw, by omega⟩
      ·
        refine WC.skip (?_)
        exact WX.cut _ ⟨rfl, rfl, rfl, rfl, rfl, rfl, trivial⟩ ⟨(by exact .inl ⟨rfl, by omega⟩), hBa, hR, hw, by omega⟩
    ·
      rintro t w6 ⟨ht, hBa, hR, hw, z26⟩
      refine WX.then_normal (WC.seq (WC.seq (WC.region (WL.move rfl rfl (?_)))))
      refine WL.lss? rfl rfl rfl (fun h74 => ?_) (fun h74 => ?_)
      ·
        refine WL.nil (WX.then_normal (WC.cond_true rfl (WC.seq (WC.region (WL.assign rfl rfl (WL.nil (WX.then_normal (?_))))))))
        refine WC.ret (WX.then_ret (?_))
        refine WX.ret1 (.inl rfl) Tryz.results5 rfl ?_
        exact ⟨_, rfl, rfl, hw⟩
      ·
        refine WL.nil (WX.then_normal (WC.cond_false rfl (WC.skip (WX.then_normal (WC.seq (WC.seq (WC.region (?_))))))))
        refine WL.move rfl rfl (WL.move rfl rfl (WL.move rfl rfl (?_)))
        obtain ⟨at_, rfl⟩ : ∃ at_ : Nat, t = (at_ : Int) := ⟨t.toNat, by omega⟩
        have hfit : at_ + m ≤ s.dn * 7 := by omega
        have hdis : ∀ j i, j < c → i < m → addr + j ≠ at_ + i := fun j i h1 h2 => by omega
        have l6 := hBa.lt
        have zw6 := hw.size
        refine WL.toBytes Tryz.underlying9 Tryz.underlying26 Tryz.underlying5 rfl (by omega) rfl ?_
        intro a_hq c_hq w_hq hq k_hq z_hq
        have zs_k_hq := k_hq.size
        replace hBa := hBa.pure k_hq
        replace hR := hR.pure k_hq
        replace hw := hw.pure k_hq
        rw [← hb2] at hq ⊢
        have l7' := hBa.lt
        have zw7 := hw.size
        refine WL.call eg_17 rfl rfl (awrite_good hBa (fun h => h.1.2 rfl) hR (fun y hy => by have := hy.2; omega) l4 (by omega) (by omega) at_ hq.rsl (by omega) (by rw [e7, ← hm]; omega) (by omega) (by rw [bgon_none l5]; decide)) ?_
        rintro v w8 ⟨rfl, hR8, k8⟩
        have z8 := k8.size
        replace hBa := hBa.chg k8 (fun h => h.1.2 rfl)
        replace hw := hw.chg k8 (fun y h1 h2 => by have := h2.1.1; omega)
        have hc2 : (layA s.dn b2).length = m := by rw [layA_len _ _ (by omega), hm]
        have hc1 : (layA s.dn b).length = c := by rw [layA_len _ _ (by omega), hc]
        have hI1 := apart_intact (b := at_) (cells2 := layA s.dn b2) l9 (fun j i h1 h2 => hdis j i (by omega) (by omega))
        have hI2 := wrT_intact s 2 at_ (layA s.dn b2) (bad := []) (fun c h1 h2 hg => by rw [l5] at hg; cases hg)
        obtain ⟨d1, n1, -, -⟩ := wrT_dn s 2 at_ (layA s.dn b2) (layA s.dn b2).length
        have u1 := wrT_up l4 2 at_ (layA s.dn b2) (layA s.dn b2).length
        have g1 : ∀ d, goneS (wrT s 2 at_ (layA s.dn b2) (layA s.dn b2).length) d = false := fun d => by rw [wrT_gone]; exact l5 d
        obtain ⟨s1, es1⟩ : ∃ s1, s1 = wrT s 2 at_ (layA s.dn b2) (layA s.dn b2).length := ⟨_, rfl⟩
        rw [← es1] at hI1 hI2 hR8 d1 n1 u1 g1
        clear es1
        refine WL.neqF rfl rfl rfl (by rfl) ?_
        refine WL.move rfl rfl (WL.want rfl rfl rfl (WL.move rfl rfl (WL.want rfl rfl rfl (?_))))
        refine WL.call eg_23 rfl rfl (FlushU hR8 u1) ?_
        rintro v w9 ⟨rfl, hR9, k9⟩
        replace hBa := hBa.chg k9 (fun h => h.elim (fun h => h.1.2 rfl) (fun h => by omega))
        replace hw := hw.chg k9 (fun y h1 h2 => h2.elim (fun h => by have := h.1.1; omega) (fun h => by omega))
        replace hI1 := all_intact hI1
        replace hI2 := all_intact hI2
        have d9 : (allS s1).dn = s.dn := d1
        have n9 : (allS s1).sn = 9 := n1.trans l2
        have u9 : Up (allS s1) := allS_up u1
        have g9 : ∀ d, goneS (allS s1) d = false := g1
        obtain ⟨s2, es2⟩ : ∃ s2, s2 = allS s1 := ⟨_, rfl⟩
        rw [← es2] at hI1 hI2 hR9 d9 n9 u9 g9
        clear es2
        refine WL.want rfl rfl rfl (?_)
        refine WL.neqF rfl rfl rfl (by rfl) ?_
        refine WL.pickF rfl rfl rfl (WL.nil (WX.then_normal (WC.cond_false rfl (WC.skip (WX.then_normal (WC.seq (WC.region (?_))))))))
        refine WL.move rfl rfl (WL.move rfl rfl (WL.move rfl rfl (WL.lens Tryz.underlying9 rfl rfl (WL.move rfl rfl (?_)))))
        have es1 : dat.size ≤ 4000 := by omega
        refine WL.call eg_24 rfl rfl (sum6_calls _ dat es1) ?_
        rintro v w10 ⟨rfl, k10⟩
        rw [← hb]
        have zs_k10 := k10.size
        replace hBa := hBa.pure k10
        replace hw := hw.pure k10
        replace hR9 := hR9.pure k10
        have hcl := aread_gone (by rw [d9]; exact hBa) hR9 u9 (by omega) (by omega) addr b l7 (by rw [d9, n9, ← hc]; omega) (by rw [d9, bgon_none g9]; exact hI1) (by rw [bgon_none g9]; decide)
        rw [show ((b.length : Nat) : Int) = (dat.size : Int) from by rw [hbl], bgon_none g9] at hcl
        refine WL.call eg_19 rfl rfl (hcl) ?_
        rintro v w11 ⟨⟨fa, fc, ba, bc, rfl, hB1, hb1⟩, k11⟩
        have zs_k11 := k11.size
        replace hBa := hBa.pure k11
        replace hw := hw.pure k11
        replace hR9 := hR9.pure k11
        refine WL.move rfl rfl (WL.extract rfl rfl rfl (WL.extract rfl rfl rfl (WL.extract rfl rfl rfl (WL.assign rfl rfl (WL.assign rfl rfl (WL.assign rfl rfl (WL.nil (?_))))))))
        refine WX.then_normal (WC.seq (WC.region (WL.move rfl rfl (WL.move rfl rfl (WL.move rfl rfl (WL.lens Tryz.underlying9 rfl rfl (WL.move rfl rfl (?_))))))))
        refine WL.call eg_24 rfl rfl (sum6_calls _ ot (by omega)) ?_
        rintro v w12 ⟨rfl, k12⟩
        rw [← hb2]
        have zs_k12 := k12.size
        replace hBa := hBa.pure k12
        replace hw := hw.pure k12
        replace hR9 := hR9.pure k12
        replace hB1 := hB1.pure k12
        have hcl := aread_gone (by rw [d9]; exact hBa) hR9 u9 (by omega) (by omega) at_ b2 (by omega) (by rw [d9, n9, ← hm]; omega) (by rw [d9, bgon_none g9]; exact hI2) (by rw [bgon_none g9]; decide)
        rw [show ((b2.length : Nat) : Int) = (ot.size : Int) from by rw [hbl2], bgon_none g9] at hcl
        refine WL.call eg_19 rfl rfl (hcl) ?_
        rintro v w13 ⟨⟨fa2, fc2, ba2, bc2, rfl, hB2, hb3⟩, k13⟩
        have zs_k13 := k13.size
        replace hBa := hBa.pure k13
        replace hw := hw.pure k13
        replace hR9 := hR9.pure k13
        replace hB1 := hB1.pure k13
        refine WL.move rfl rfl (WL.extract rfl rfl rfl (WL.extract rfl rfl rfl (WL.extract rfl rfl rfl (WL.assign rfl rfl (WL.assign rfl rfl (WL.assign rfl rfl (WL.nil (?_))))))))
        refine WX.then_normal (WC.seq (WC.region (WL.move rfl rfl (?_))))
        refine WL.eqlT rfl rfl rfl (by rfl) ?_
        refine WL.move rfl rfl (WL.want rfl rfl rfl (WL.move rfl rfl (WL.want rfl rfl rfl (?_))))
        refine WL.eqlT rfl rfl rfl (by rfl) ?_
        refine WL.pickT rfl rfl rfl (WL.move rfl rfl (WL.want rfl rfl rfl (WL.move rfl rfl (WL.want rfl rfl rfl (?_)))))
        refine WL.toStr Tryz.underlying26 Tryz.underlying5 Tryz.underlying9 hB1.rsl rfl rfl ?_
        refine WL.want rfl rfl rfl (WL.move rfl rfl (WL.want rfl rfl rfl (?_)))
        refine WL.seqlT rfl rfl rfl ((by rw [hb])) ?_
        refine WL.pickT rfl rfl rfl (WL.move rfl rfl (WL.want rfl rfl rfl (WL.move rfl rfl (WL.want rfl rfl rfl (?_)))))
        refine WL.toStr Tryz.underlying26 Tryz.underlying5 Tryz.underlying9 hB2.rsl rfl rfl ?_
        refine WL.want rfl rfl rfl (WL.move rfl rfl (WL.want rfl rfl rfl (?_)))
        refine WL.seqlT rfl rfl rfl ((by rw [hb2])) ?_
        refine WL.pickT rfl rfl rfl (WL.move rfl rfl (WL.want rfl rfl rfl (WL.move rfl rfl (WL.want rfl rfl rfl (WL.len Tryz.underlying39 rfl rfl (WL.want rfl rfl rfl (?_)))))))
        refine WL.eqlT rfl rfl rfl (by rfl) ?_
        refine WL.pickT rfl rfl rfl (WL.move rfl rfl (WL.want rfl rfl rfl (WL.move rfl rfl (WL.want rfl rfl rfl (WL.len Tryz.underlying39 rfl rfl (WL.want rfl rfl rfl (?_)))))))
        refine WL.eqlT rfl rfl rfl (by rfl) ?_
        refine WL.pickT rfl rfl rfl (WL.assign rfl rfl (WL.nil (WX.then_normal (WC.ret (?_)))))
        refine WX.ret1 (.inl rfl) Tryz.results5 rfl ?_
        exact ⟨_, rfl, rfl, hw⟩
end Go.Proofs.YtggecdldnpildaaGreat
