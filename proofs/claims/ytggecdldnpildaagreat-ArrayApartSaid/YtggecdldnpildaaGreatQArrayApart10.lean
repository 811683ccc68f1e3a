import Derived.Shelf.Sort.Plain
import Derived.Shelf.Slices.In.SortNone
import Derived.Lib.SortBridge
import Derived.Test.YtggecdldnpildaaGreatQArrayApart9
namespace Go.Proofs.YtggecdldnpildaaGreat
open Go.RowKit Go.HL
set_option maxRecDepth 100000

/-! a block's bytes, made without some drives -/
def kR (l : List Stp) : Nat := (l.map fun s => s.cs.length - 3).sum
theorem kR_snoc (l : List Stp) (s : Stp) : kR (l ++ [s]) = kR l + (s.cs.length - 3) := by simp [kR]
theorem flat_len {n : Nat} : ∀ {xs : List (List UInt8)}, (∀ x ∈ xs, x.length = n) → xs.flatten.length = n * xs.length
  | [], _ => rfl
  | x :: xs, h => by
    have ih := flat_len (xs := xs) (fun y hy => h y (List.mem_cons_of_mem _ hy))
    rw [List.flatten_cons, List.length_append, ih, h x (List.mem_cons_self ..), List.length_cons, Nat.mul_add]
    omega
set_option maxHeartbeats 8000000 in
theorem data_calls {S S2 S3 : Nat → Prop} {w : World} {ao ab : Option Addr} {c cb : Nat} {l : List Stp} {bad : List Int} (hO : RSK S w 121 estp ao c l) (hI : SI S2 w 26 5 3 l) (hb : RSl S3 w ei ab cb bad) (hok : ∀ s ∈ l, OkCol s.abs.1 s.abs.2 bad) (hl8 : l.length ≤ 8) (size : Nat) (hsz : 1 ≤ size ∧ size ≤ 128 * kR l) (hk8 : kR l ≤ 100) :
    Calls Tryz.prog 52 [.slice ao l.length c, vi size, .slice ab bad.length cb].toArray w (Ret fun v w' => (∃ a2 c2, v = .tuple #[.slice a2 ((datA (l.map Stp.abs) bad).take size).length c2, .bool true] ∧ Row (w.heap.size ≤ ·) w' 5 eb a2 c2 ((datA (l.map Stp.abs) bad).take size) ∧ (datA (l.map Stp.abs) bad).length = 128 * kR l) ∧ Chg Nob w w') := by
  have hw := Chg.refl Nob w
  replace hO : RSK (· < w.heap.size) w 121 estp ao c l := RSK.mono hO (fun b hb _ => hb)
  replace hI : SI (· < w.heap.size) w 26 5 3 l := hI.mono (fun b hb _ => hb)
  replace hb := hb.old
  have hbl : bad.length ≤ 3 ∨ l = [] := by
    cases l with
    | nil => exact .inr rfl
    | cons s t => exact .inl (hok s (List.mem_cons_self ..)).bad3
  obtain ⟨F, hF⟩ : ∃ F : Nat → List UInt8, F = fun i => datA ((l.take i).map Stp.abs) bad := ⟨_, rfl⟩
  have hF0 : F 0 = [] := by rw [hF]; rfl
  refine Calls.of_WC Tryz.func52 rfl Tryz.ntmps52 (by simp) ?_
  refine WC.seq (WC.region (WL.assign rfl rfl (WL.assign rfl rfl (WL.nil (WX.then_normal (WC.seq (WC.region (?_))))))))
  refine WL.assign rfl rfl (WL.nil (WX.then_normal (WC.seq (WC.seq (WC.region (WL.move rfl rfl (WL.len Tryz.underlying91 rfl rfl (?_))))))))
  refine WL.move rfl rfl (WL.nil (WX.then_normal (WC.block (?_))))
  refine WC.loop (σ := Nat × (Option Addr × Nat)) (fun q => [(0, .slice ao l.length c), (1, vi size), (2, .slice ab bad.length cb), (8, .slice q.2.1 (F q.1).length q.2.2), (18, .slice ao l.length c), (19, vi l.length), (20, vi (q.1 : Int))])
    (fun q w' => q.1 ≤ l.length ∧ RSK (· < w.heap.size) w' 121 estp ao c l ∧ SI (· < w.heap.size) w' 26 5 3 l ∧ RSl (· < w.heap.size) w' ei ab cb bad ∧ Row (w.heap.size ≤ ·) w' 5 eb q.2.1 q.2.2 (F q.1) ∧ (F q.1).length = 128 * kR (l.take q.1) ∧ Chg Nob w w') (fun q => l.length - q.1) (0, (none, 0)) ⟨rfl, rfl, rfl, by rw [hF0]; rfl, rfl, rfl, rfl, trivial⟩
    ⟨Nat.zero_le _, hO, hI, hb, by rw [hF0]; exact Row.nil _ _ _ _, by rw [hF0]; rfl, hw⟩ ?_
  clear hO hI hb hw
  rintro ⟨i, a0, c0⟩ w4 ⟨hi, hO, hI, hb, hR, hRl, hw⟩
  simp only at hi hR hRl
  dsimp only
  have zw4 := hw.size
  replace hR := hR.lt
  refine WC.seq (WC.region (?_))
  refine WL.lss? rfl rfl rfl (fun h21 => ?_) (fun h21 => ?_)
  ·
    refine WL.nil (WX.then_normal (WC.seq (WC.cond_true rfl (WC.skip (WX.then_normal (WC.seq (WC.block (?_))))))))
    refine WC.seq (WC.region (?_))
    obtain ⟨x, hx⟩ : ∃ x, l[i]? = some x := ⟨_, List.getElem?_eq_getElem (by omega)⟩
    have hxm := List.mem_of_getElem? hx
    have hxo := hok x hxm
    have hx4 : 4 ≤ x.ds.length ∧ x.ds.length ≤ 16 := hxo.four
    have hxl := hxo.len
    have hxc : x.cs.length = x.ds.length := by
      have h1 : x.abs.1.length = x.cs.length := by simp [Stp.abs]
      rw [← h1, hxl]
      rfl
    have hb3 := hxo.bad3
    have htk : kR (l.take (i + 1)) = kR (l.take i) + (x.cs.length - 3) := by rw [List.take_add_one, hx, Option.toList_some, kR_snoc]
    have hkl : ∀ (l : List Stp) (j : Nat), kR (l.take j) ≤ kR l := fun l => by
      induction l with
      | nil => intro j; simp
      | cons y l ih =>
        intro j
        cases j with
        | zero => simp [kR]
        | succ j =>
          have := ih j
          simp only [kR, List.take_succ_cons, List.map_cons, List.sum_cons] at this ⊢
          omega
    have hkl := hkl l (i + 1)
    have hF1 : F (i + 1) = F i ++ ((rbA x.abs.1 (wrgA x.abs.2 bad) (x.abs.1.length - 3)).take (x.abs.1.length - 3)).flatten := by rw [hF]; show datA ((l.take (i + 1)).map Stp.abs) bad = _; rw [List.take_add_one, hx, Option.toList_some, List.map_append]; exact datA_snoc _ _ _
    refine WL.indexT (e := estp) Tryz.underlying91 Tryz.sizeOf121 (RSK.rsl hO) rfl rfl ⟨hx, rfl⟩ rfl ?_
    intro bb oo hcc
    refine WL.loads _ Tryz.isAgg121 Tryz.sizeOf121 rfl hcc rfl rfl (?_)
    refine WL.alloc Tryz.zeroValue121 rfl ?_
    intro ga wa hgea hlta hba ka
    have zs_ka := ka.size
    replace hO := hO.pure ka
    replace hI := hI.pure ka
    replace hb := hb.pure ka
    replace hR := hR.pure ka
    replace hw := hw.pure ka
    refine WL.stores Tryz.sizeOf121 hba rfl rfl (by rfl) (by exact Enc.one _ _) (by exact Nat.le_of_ble_eq_true rfl) rfl ?_
    intro w_1 hs_1 hn_1 k_1
    have zs_k_1 := k_1.size
    replace hO := hO.chg k_1 (by intros; exfalso; (try dsimp only at *); omega)
    replace hI := hI.chg k_1 (by intro b h1 h2 h3; have h4 : _ = _ := h3; (try dsimp only at h2); exfalso; omega)
    replace hb := hb.chg k_1 (by intro b h1 h2 h3; have h4 : _ = _ := h3; (try dsimp only at h2); exfalso; omega)
    replace hR := hR.chg k_1 (by intro b h1 h2 h3; have h4 : _ = _ := h3; (try dsimp only at h2); exfalso; omega)
    replace hw := hw.chg k_1 (by intro x h1 h2; have h3 : _ = _ := h2; exfalso; omega)
    replace hba := hn_1
    refine WL.nil (WX.then_normal (WC.seq (WC.region (WL.assign rfl rfl (WL.nil (WX.then_normal (WC.seq (?_))))))))
    refine WC.seq (WC.region (WL.fieldAddr (fld_121_1) rfl rfl (WL.loadB Tryz.isAgg39 hba rfl rfl rfl (WL.len Tryz.underlying39 rfl rfl (WL.move rfl rfl (WL.nil (WX.then_normal (?_))))))))
    refine WC.block (?_)
    have hb10 : Blk _ ga 121 [.slice x.ca x.cs.length x.cc, .slice x.da x.ds.length x.dc] := hba
    have l10 := hb10.lt
    have zwa := hw.size
    have hga : w4.heap.size ≤ ga := by omega
    refine WC.loop (σ := Nat × (Option Addr × Nat)) (fun q => [(0, .slice ao l.length c), (1, vi size), (2, .slice ab bad.length cb), (8, .slice a0 (F i).length c0), (10, ptr ga), (11, .slice q.2.1 (wrgT x.ds bad q.1).length q.2.2), (18, .slice ao l.length c), (19, vi l.length), (20, vi (i : Int)), (25, .slice x.da x.ds.length x.dc), (26, vi x.ds.length), (27, vi (q.1 : Int))])
      (fun q w' => q.1 ≤ x.ds.length ∧ RSK (· < w.heap.size) w' 121 estp ao c l ∧ SI (· < w.heap.size) w' 26 5 3 l ∧ RSl (· < w.heap.size) w' ei ab cb bad ∧ Row (fun b => w.heap.size ≤ b ∧ b < w4.heap.size) w' 5 eb a0 c0 (F i) ∧ Blk w' ga 121 [.slice x.ca x.cs.length x.cc, .slice x.da x.ds.length x.dc] ∧ Row (fun b => w4.heap.size ≤ b ∧ b ≠ ga) w' 3 ei q.2.1 q.2.2 (wrgT x.ds bad q.1) ∧ Chg Nob w w' ∧ w4.heap.size ≤ w'.heap.size) (fun q => x.ds.length - q.1) (0, (none, 0)) ⟨rfl, rfl, rfl, rfl, rfl, rfl, rfl, rfl, rfl, rfl, rfl, rfl, trivial⟩
      ⟨Nat.zero_le _, hO, hI, hb, hR, hb10, Row.nil _ _ _ _, hw, by omega⟩ ?_
    clear hO hI hb hR hb10 hw hba
    rintro ⟨j, aw, cw⟩ w5 ⟨hj, hO, hI, hb, hR, hb10, hW, hw, zw5⟩
    simp only at hj hW
    dsimp only
    have hwl := wrgT_len x.ds bad j
    have l10 := hb10.lt
    have hds := hI.drs x hxm
    have x16 : x.ds.length ≤ 16 := hx4.2
    refine WC.seq (WC.region (?_))
    refine WL.lss? rfl rfl rfl (fun h28 => ?_) (fun h28 => ?_)
    ·
      refine WL.nil (WX.then_normal (WC.seq (WC.cond_true rfl (WC.skip (WX.then_normal (WC.seq (WC.block (?_))))))))
      refine WC.seq (WC.region (WL.move rfl rfl (?_)))
      obtain ⟨d, hd⟩ : ∃ d, x.ds[j]? = some d := ⟨_, List.getElem?_eq_getElem (by omega)⟩
      have hnx := wrgT_next x.ds bad j
      rw [show x.ds.getD j 0 = d from by rw [List.getD_eq_getElem?_getD, hd]; rfl] at hnx
      refine WL.indexT (e := ei) Tryz.underlying39 Tryz.sizeOf3 (RSK.rsl hds) rfl rfl ⟨hd, rfl⟩ rfl ?_
      intro bb oo hcc
      refine WL.load Tryz.isAgg3 rfl (hcc 0 _ rfl) rfl (WL.assign rfl rfl (WL.assign rfl rfl (WL.nil (WX.then_normal (WC.seq (WC.region (WL.move rfl rfl (?_))))))))
      refine WL.move rfl rfl (?_)
      refine WL.call eg_48 rfl rfl (contains_calls hb (by omega) d) ?_
      rintro v w6 ⟨rfl, k6⟩
      have zs_k6 := k6.size
      replace hO := hO.pure k6
      replace hI := hI.pure k6
      replace hb := hb.pure k6
      replace hR := hR.pure k6
      replace hb10 := hb10.pure k6
      replace hW := hW.pure k6
      replace hw := hw.pure k6
      by_cases hdb : d ∈ bad
      ·
        rw [decide_eq_true hdb]
        refine WL.nil (WX.then_normal (WC.cond_true rfl (WC.region (WL.move rfl rfl (WL.move rfl rfl (?_))))))
        refine WL.build (e := ei) [(j : Int)] Tryz.underlying39 Tryz.sizeOf3 Tryz.zeroValue3 rfl rfl rfl (by simp [Value.cells] <;> rfl) (by decide) rfl ?_
        intro a_q37 w_q37 q37 l_q37 z_q37 k_q37
        have zs_k_q37 := k_q37.size
        replace hO := hO.pure k_q37
        replace hI := hI.pure k_q37
        replace hb := hb.pure k_q37
        replace hR := hR.pure k_q37
        replace hb10 := hb10.pure k_q37
        replace hW := hW.pure k_q37
        replace hw := hw.pure k_q37
        have l10 := hb10.lt
        have zc := hw.size
        refine WL.append (e := ei) info_3 rfl Tryz.underlying39 rfl rfl hW (q37.rsl.src Tryz.underlying39) (by constructor <;> (simp only [List.length_cons, List.length_nil]; omega)) (fun b hb => by have h9 : _ ≤ b := hb; exact ⟨by omega, by omega⟩) rfl ?_
        intro a38 c38 w38 hW38 g38 n38
        have z38 := g38.chg.size
        replace hO := hO.chg g38.chg (fun b _ h1 _ h2 => by have := h2.2.1; have h9 : b < _ := h1; omega)
        replace hI := hI.chg g38.chg (fun b _ h1 h2 => by have := h2.2.1; have h9 : b < _ := h1; omega)
        replace hb := hb.chg g38.chg (fun b _ h1 h2 => by have := h2.2.1; omega)
        replace hR := hR.chg g38.chg (fun b _ h1 h2 => by have := h2.2.1; have := h1.2; omega)
        replace hb10 := hb10.chg g38.chg (fun h => h.2.2 rfl)
        replace hw := hw.chg g38.chg (fun b h1 h2 => by have := h2.2.1; omega)
        rw [if_pos hdb] at hnx
        rw [← hnx] at hW38 ⊢
        refine WL.assign rfl rfl (WL.nil (WX.block_normal (WX.then_normal (WC.region (WL.add64 rfl rfl (by omega) rfl (WL.move rfl rfl (WL.nil (?_))))))))
        exact WX.loop_next (j + 1, (a38, c38)) ⟨rfl, rfl, rfl, rfl, rfl, rfl, rfl, rfl, rfl, rfl, rfl, rfl, trivial⟩ ⟨by show j + 1 ≤ x.ds.length; omega, hO, hI, hb, hR, hb10, hW38, hw, by omega⟩ (by show x.ds.length - (j + 1) < x.ds.length - j; omega)
      ·
        rw [decide_eq_false hdb]
        refine WL.nil (WX.then_normal (WC.cond_false rfl (WC.skip (WX.block_normal (WX.then_normal (WC.region (WL.add64 rfl rfl (by omega) rfl (?_))))))))
        refine WL.move rfl rfl (WL.nil (?_))
        rw [if_neg hdb] at hnx
        rw [← hnx] at hW ⊢
        exact WX.loop_next (j + 1, (aw, cw)) ⟨rfl, rfl, rfl, rfl, rfl, rfl, rfl, rfl, rfl, rfl, rfl, rfl, trivial⟩ ⟨by show j + 1 ≤ x.ds.length; omega, hO, hI, hb, hR, hb10, hW, hw, by omega⟩ (by show x.ds.length - (j + 1) < x.ds.length - j; omega)
    ·
      refine WL.nil (WX.then_normal (WC.seq (WC.cond_false rfl (WC.exit (WX.then_exit (WX.then_exit (WX.block_here (?_))))))))
      refine WX.then_normal (WC.seq (WC.region (WL.fieldAddr (fld_121_0) rfl rfl (WL.loadB Tryz.isAgg87 hb10 rfl rfl rfl (WL.move rfl rfl (?_))))))
      have hjx : j = x.ds.length := by omega
      have hwr : wrgT x.ds bad j = wrgA x.abs.2 bad := by rw [hjx]; rfl
      rw [hwr] at hW ⊢
      have hev := hxo.even
      have her := hxo.err
      have hRS := (hI.cols x hxm).rs
      refine WL.call eg_74 rfl rfl (rebuild_good (rs := x.cs) (bad := wrgA x.abs.2 bad) (k := x.cs.length - 3) (n := 128) hRS hW.rsl (by omega) (by omega) her (Nat.le_trans (wrgA_len hxo.nod) hb3) (lenB_of hev) hev) ?_
      rintro v w7 ⟨⟨go, N, ps, rfl, hP, hgo, hRB⟩, k7⟩
      have zs_k7 := k7.size
      replace hO := hO.pure k7
      replace hI := hI.pure k7
      replace hb := hb.pure k7
      replace hR := hR.pure k7
      replace hw := hw.pure k7
      have hrb : rbA x.abs.1 (wrgA x.abs.2 bad) (x.abs.1.length - 3) = xss ps := by
        have h1 : x.abs.1.length = x.cs.length := by simp [Stp.abs]
        rw [h1]
        exact rbA_of (by omega) (Nat.le_trans (wrgA_len hxo.nod) hb3) hRB
      have hpl : ps.length = x.cs.length - 3 + 3 := by rw [← xss_len, hRB.len]
      have hp128 : ∀ r ∈ ps, r.xs.length = 128 := fun r hr => hRB.all _ (List.mem_map.2 ⟨r, hr, rfl⟩)
      rw [hrb] at hF1
      refine WL.move rfl rfl (WL.extract rfl rfl rfl (WL.extract rfl rfl rfl (WL.assign rfl rfl (WL.assign rfl rfl (WL.nil (WX.then_normal (WC.seq (?_))))))))
      refine WC.seq (WC.region (WL.move rfl rfl (?_)))
      refine WL.neqF rfl rfl rfl (by rfl) ?_
      refine WL.nil (WX.then_normal (WC.cond_false rfl (WC.skip (WX.then_normal (WC.seq (WC.region (WL.move rfl rfl (?_))))))))
      refine WL.move rfl rfl (WL.len Tryz.underlying87 rfl rfl (?_))
      refine WL.sub64 rfl rfl (by constructor <;> omega) rfl ?_
      obtain ⟨k, hk⟩ : ∃ k, k = x.cs.length - 3 := ⟨_, rfl⟩
      rw [← hk] at hpl
      have hPr := hP.toRS (S := fun b => w4.heap.size ≤ b) (fun b h1 h2 => by omega)
      refine WL.slice (e := erow) (xs := ps) (l := 0) (h := k) (k := .i64) (j := .i64) Tryz.underlying87 Tryz.sizeOf26 hPr.outer (by show some (Value.slice _ (x.cs.length - 3 + 3) (x.cs.length - 3 + 3)) = some (Value.slice _ ps.length ps.length); rw [hpl, hk]) (.inr ⟨rfl, rfl⟩) (.inl (by show some (some (vi (((x.cs.length - 3 + 3 : Nat) : Int) - 3))) = some (some (vi (k : Int))); congr 3; omega)) ⟨Nat.zero_le _, by omega⟩ rfl ?_
      intro az cz hz1 nz
      rw [List.drop_zero] at hz1 ⊢
      have hzl : (ps.take k).length = k := by rw [List.length_take]; omega
      refine WL.len Tryz.underlying87 rfl rfl (WL.move rfl rfl (WL.nil (WX.then_normal (WC.block (?_)))))
      have hZ : RS (fun b => w4.heap.size ≤ b) w7 az cz (ps.take k) := ⟨hz1, fun r hr => hPr.inner r (List.mem_of_mem_take hr)⟩
      obtain ⟨G, hG⟩ : ∃ G : Nat → List UInt8, G = fun j => F i ++ ((xss (ps.take k)).take j).flatten := ⟨_, rfl⟩
      have hG0 : G 0 = F i := by rw [hG]; simp
      have hGk : G k = F (i + 1) := by
        rw [hG, hF1]
        show _ ++ ((xss (ps.take k)).take k).flatten = _ ++ ((xss ps).take (x.abs.1.length - 3)).flatten
        have h1 : x.abs.1.length - 3 = k := by rw [hk]; simp [Stp.abs]
        rw [h1, xss, xss, List.map_take, List.take_take, Nat.min_self]
      have hGs : ∀ (j : Nat) (r : Rw), (ps.take k)[j]? = some r → G (j + 1) = G j ++ r.xs := fun j r hr => by
        rw [hG]
        show _ ++ ((xss (ps.take k)).take (j + 1)).flatten = _ ++ ((xss (ps.take k)).take j).flatten ++ r.xs
        rw [List.take_add_one, xss_at hr, Option.toList_some, List.flatten_append, List.append_assoc]
        simp
      have hGl : ∀ j, j ≤ k → (G j).length = 128 * kR (l.take i) + 128 * j := fun j hj => by
        rw [hG]
        show (F i ++ ((xss (ps.take k)).take j).flatten).length = _
        rw [List.length_append, hRl, flat_len (n := 128) (fun y hy => by
          have h1 := List.mem_of_mem_take hy
          obtain ⟨r, hr, rfl⟩ := List.mem_map.1 h1
          exact hp128 r (List.mem_of_mem_take hr)), List.length_take, xss_len, hzl, Nat.min_eq_left hj]
      rw [← hG0]
      rw [← hG0] at hR
      rw [hzl]
      have zw7 := hw.size
      refine WC.loop (σ := Nat × (Option Addr × Nat)) (fun q => [(0, .slice ao l.length c), (1, vi size), (2, .slice ab bad.length cb), (8, .slice q.2.1 (G q.1).length q.2.2), (18, .slice ao l.length c), (19, vi l.length), (20, vi (i : Int)), (53, .slice az k cz), (54, vi (k : Nat)), (55, vi (q.1 : Int))])
        (fun q w' => q.1 ≤ k ∧ RSK (· < w.heap.size) w' 121 estp ao c l ∧ SI (· < w.heap.size) w' 26 5 3 l ∧ RSl (· < w.heap.size) w' ei ab cb bad ∧ Row (fun b => (w.heap.size ≤ b ∧ b < w4.heap.size) ∨ w7.heap.size ≤ b) w' 5 eb q.2.1 q.2.2 (G q.1) ∧ RS (fun b => w4.heap.size ≤ b ∧ b < w7.heap.size) w' az cz (ps.take k) ∧ Chg Nob w w' ∧ w7.heap.size ≤ w'.heap.size) (fun q => k - q.1) (0, (a0, c0)) ⟨rfl, rfl, rfl, rfl, rfl, rfl, rfl, rfl, rfl, rfl, trivial⟩
        ⟨Nat.zero_le _, hO, hI, hb, hR.mono (fun b hb => .inl hb), ⟨hZ.outer.lt, fun r hr => (hZ.inner r hr).lt⟩, hw, Nat.le_refl _⟩ ?_
      clear hO hI hb hR hw hZ hPr hz1
      rintro ⟨j2, a0, c0⟩ w8 ⟨hj2, hO, hI, hb, hR, hZ, hw, zw8⟩
      simp only at hj2 hR
      dsimp only
      have hGj := hGl j2 hj2
      have zc8 := hw.size
      refine WC.seq (WC.region (?_))
      refine WL.lss? rfl rfl rfl (fun h56 => ?_) (fun h56 => ?_)
      ·
        refine WL.nil (WX.then_normal (WC.seq (WC.cond_true rfl (WC.skip (WX.then_normal (WC.seq (WC.block (?_))))))))
        refine WC.seq (WC.region (?_))
        obtain ⟨r, hr⟩ : ∃ r, (ps.take k)[j2]? = some r := ⟨_, List.getElem?_eq_getElem (by omega)⟩
        have hr128 := hp128 r (List.mem_of_mem_take (List.mem_of_getElem? hr))
        have hGn := hGs j2 r hr
        refine WL.indexT (e := erow) Tryz.underlying87 Tryz.sizeOf26 hZ.outer (by show some (Value.slice az k cz) = some (Value.slice az (ps.take k).length cz); rw [hzl]) rfl ⟨hr, rfl⟩ rfl ?_
        intro bb oo hcc
        refine WL.load Tryz.isAgg26 rfl (hcc 0 _ rfl) rfl ?_
        refine WL.assign rfl rfl (WL.nil (WX.then_normal (WC.region (WL.move rfl rfl (WL.move rfl rfl (?_))))))
        refine WL.append (e := eb) info_5 rfl Tryz.underlying26 rfl rfl hR ((hZ.at hr).src Tryz.underlying26) (by constructor <;> omega) (fun b hb => by have h9 : _ ≤ b := hb; exact .inr (by omega)) rfl ?_
        intro a61 c61 w61 hR61 g61 n61
        have z61 := g61.chg.size
        replace hO := hO.chg g61.chg (fun b _ h1 _ h2 => by have h9 : b < _ := h1; rcases h2.2 with h3 | h3 <;> omega)
        replace hI := hI.chg g61.chg (fun b _ h1 h2 => by have h9 : b < _ := h1; rcases h2.2 with h3 | h3 <;> omega)
        replace hb := hb.chg g61.chg (fun b _ h1 h2 => by rcases h2.2 with h3 | h3 <;> omega)
        replace hZ := hZ.chg g61.chg (fun b _ h1 h2 => by rcases h2.2 with h3 | h3 <;> omega)
        replace hw := hw.chg g61.chg (fun b h1 h2 => by rcases h2.2 with h3 | h3 <;> omega)
        rw [← hGn] at hR61 ⊢
        refine WL.assign rfl rfl (WL.nil (WX.block_normal (WX.then_normal (WC.region (WL.add64 rfl rfl (by omega) rfl (WL.move rfl rfl (WL.nil (?_))))))))
        exact WX.loop_next (j2 + 1, (a61, c61)) ⟨rfl, rfl, rfl, rfl, rfl, rfl, rfl, rfl, rfl, rfl, trivial⟩ ⟨by show j2 + 1 ≤ k; omega, hO, hI, hb, hR61, hZ, hw, by omega⟩ (by show k - (j2 + 1) < k - j2; omega)
      ·
        refine WL.nil (WX.then_normal (WC.seq (WC.cond_false rfl (WC.exit (WX.then_exit (WX.then_exit (WX.block_here (?_))))))))
        refine WX.block_normal (WX.then_normal (WC.region (WL.add64 rfl rfl (by omega) rfl (WL.move rfl rfl (WL.nil (?_))))))
        have hjk : j2 = k := by omega
        rw [hjk, hGk] at hR ⊢
        have hl9 : (F (i + 1)).length = 128 * kR (l.take (i + 1)) := by rw [← hGk, hGl k (Nat.le_refl _), htk]; omega
        exact WX.loop_next (i + 1, (a0, c0)) ⟨rfl, rfl, rfl, rfl, rfl, rfl, rfl, trivial⟩ ⟨by show i + 1 ≤ l.length; omega, hO, hI, hb, hR.mono (fun b hb => by show w.heap.size ≤ b; rcases hb with h3 | h3 <;> omega), hl9, hw⟩ (by show l.length - (i + 1) < l.length - i; omega)
  ·
    refine WL.nil (WX.then_normal (WC.seq (WC.cond_false rfl (WC.exit (WX.then_exit (WX.then_exit (WX.block_here (?_))))))))
    refine WX.then_normal (WC.seq (WC.region (WL.move rfl rfl (WL.move rfl rfl (?_)))))
    have hil : i = l.length := by omega
    subst hil
    rw [List.take_length] at hRl
    have hFi : F l.length = datA (l.map Stp.abs) bad := by rw [hF]; show datA ((l.take l.length).map Stp.abs) bad = _; rw [List.take_length]
    have hcp := hR.own.cap
    obtain ⟨g0, rfl⟩ := hR.place0 (show 0 < (F l.length).length by omega)
    refine WL.sliceRow (e := eb) (i := size) Tryz.underlying26 Tryz.sizeOf5 rfl rfl (by omega) rfl ?_
    refine WL.assign rfl rfl (WL.assign rfl rfl (WL.nil (WX.then_normal (WC.ret (?_)))))
    refine WX.ret2 (.inl rfl) Tryz.results52 rfl rfl ?_
    have hRt := (hR.mono (S' := fun b => w.heap.size ≤ b) (fun b hb => hb.1)).take size (by omega)
    have hlt : ((F l.length).take size).length = size := by rw [List.length_take]; omega
    rw [hFi] at hRt hRl hlt
    exact ⟨_, rfl, ⟨some ⟨g0, 0, none⟩, c0, by rw [hlt], hRt, hRl⟩, hw⟩
end Go.Proofs.YtggecdldnpildaaGreat
/- the kit's contract of slices.Sort on ints, laid at this program; printed by the kit's lay-plain -/
namespace Go.Proofs
open Go.Shelf
def Tryz.lays189_ren : Go.Shelf.Ren := ⟨fun | 189 => 51 | 125 => 73 | 257 => 72 | 128 => 89 | 129 => 90 | 294 => 80 | 295 => 81 | 296 => 82 | 297 => 83 | 298 => 84 | 299 => 85 | 216 => 86 | 300 => 87 | 301 => 88 | 328 => 94 | 329 => 95 | 330 => 96 | 331 => 97 | 332 => 98 | 215 => 99 | 343 => 103 | n => n, fun | 28 => 39 | 3 => 3 | 46 => 75 | 0 => 0 | 51 => 66 | 53 => 23 | 4 => 4 | 183 => 150 | 182 => 149 | 131 => 154 | 5 => 5 | 9 => 9 | 218 => 161 | 222 => 165 | 228 => 171 | 229 => 110 | n => n, fun | n => n⟩
theorem Tryz.lays189 : Go.Proofs.Lays.n189 Tryz.prog Tryz.lays189_ren := {
  mixed := by kernel_rfl
  f125 := Tryz.func73.trans (congrArg some (by kernel_rfl))
  f128 := Tryz.func89.trans (congrArg some (by kernel_rfl))
  f129 := Tryz.func90.trans (congrArg some (by kernel_rfl))
  f189 := Tryz.func51.trans (congrArg some (by kernel_rfl))
  f215 := Tryz.func99.trans (congrArg some (by kernel_rfl))
  f216 := Tryz.func86.trans (congrArg some (by kernel_rfl))
  f257 := Tryz.func72.trans (congrArg some (by kernel_rfl))
  f294 := Tryz.func80.trans (congrArg some (by kernel_rfl))
  f295 := Tryz.func81.trans (congrArg some (by kernel_rfl))
  f296 := Tryz.func82.trans (congrArg some (by kernel_rfl))
  f297 := Tryz.func83.trans (congrArg some (by kernel_rfl))
  f298 := Tryz.func84.trans (congrArg some (by kernel_rfl))
  f299 := Tryz.func85.trans (congrArg some (by kernel_rfl))
  f300 := Tryz.func87.trans (congrArg some (by kernel_rfl))
  f301 := Tryz.func88.trans (congrArg some (by kernel_rfl))
  f328 := Tryz.func94.trans (congrArg some (by kernel_rfl))
  f329 := Tryz.func95.trans (congrArg some (by kernel_rfl))
  f330 := Tryz.func96.trans (congrArg some (by kernel_rfl))
  f331 := Tryz.func97.trans (congrArg some (by kernel_rfl))
  f332 := Tryz.func98.trans (congrArg some (by kernel_rfl))
  f343 := Tryz.func103.trans (congrArg some (by kernel_rfl))
  t0 := Tryz.underlying0
  a0 := Tryz.isAgg0
  z0 := Tryz.sizeOf0
  v0 := Tryz.zeroValue0
  t3 := Tryz.underlying3
  a3 := Tryz.isAgg3
  z3 := Tryz.sizeOf3
  v3 := Tryz.zeroValue3
  t4 := Tryz.underlying4
  a4 := Tryz.isAgg4
  z4 := Tryz.sizeOf4
  v4 := Tryz.zeroValue4
  t5 := Tryz.underlying5
  a5 := Tryz.isAgg5
  z5 := Tryz.sizeOf5
  v5 := Tryz.zeroValue5
  t9 := Tryz.underlying9
  a9 := Tryz.isAgg9
  z9 := Tryz.sizeOf9
  v9 := Tryz.zeroValue9
  t28 := Tryz.underlying39
  a28 := Tryz.isAgg39
  z28 := Tryz.sizeOf39
  v28 := Tryz.zeroValue39
  t46 := Tryz.underlying75
  a46 := Tryz.isAgg75
  z46 := Tryz.sizeOf75
  v46 := Tryz.zeroValue75
  t51 := Tryz.underlying66
  a51 := Tryz.isAgg66
  z51 := Tryz.sizeOf66
  v51 := Tryz.zeroValue66
  t53 := Tryz.underlying23
  a53 := Tryz.isAgg23
  z53 := Tryz.sizeOf23
  v53 := Tryz.zeroValue23
  t131 := Tryz.underlying154
  a131 := Tryz.isAgg154
  z131 := Tryz.sizeOf154
  v131 := Tryz.zeroValue154
  t182 := Tryz.underlying149
  a182 := Tryz.isAgg149
  z182 := Tryz.sizeOf149
  v182 := Tryz.zeroValue149
  t183 := Tryz.underlying150
  a183 := Tryz.isAgg150
  z183 := Tryz.sizeOf150
  v183 := Tryz.zeroValue150
  t218 := Tryz.underlying161
  a218 := Tryz.isAgg161
  z218 := Tryz.sizeOf161
  v218 := Tryz.zeroValue161
  t222 := Tryz.underlying165
  a222 := Tryz.isAgg165
  z222 := Tryz.sizeOf165
  v222 := Tryz.zeroValue165
  t228 := Tryz.underlying171
  a228 := Tryz.isAgg171
  z228 := Tryz.sizeOf171
  v228 := Tryz.zeroValue171
  t229 := Tryz.underlying110
  a229 := Tryz.isAgg110
  z229 := Tryz.sizeOf110
  v229 := Tryz.zeroValue110 }
end Go.Proofs
namespace Go.HL
open Go.RowKit Go.Proofs
/-! sorting a row of the call's own -/
theorem Row.holdsI {S : Nat → Prop} {w : World} {T : TypeId} {g c : Nat} {xs : List Int} (h : Row S w T ei (some ⟨g, 0, none⟩) c xs) : Go.Sort.Holds (Value.int .i64) w g 0 xs.toArray := by
  have h1 := h.splice (o := 0) (vs := ei.all xs) (ys := xs) (by rw [Enc.all_len]; omega) rfl (by rw [Nat.zero_add, List.drop_length, List.take_zero, List.nil_append, List.append_nil])
  have hl : (ei.all xs).length = xs.length := by rw [Enc.all_len]; show xs.length * 1 = _; omega
  have := Go.Lib.holds_of_ints (w := w) (b := g) (off := 0) (n := xs.length) (zs := xs) (Nat.le_refl _) (fun j hj => by
    have h2 := h.rsl.cellsAt (j := j) (List.getElem?_eq_getElem hj) 0 _ rfl
    rw [show 0 + j * ei.sz + 0 = 0 + j from by show 0 + j * 1 + 0 = _; omega] at h2
    rw [h2, List.getD_eq_getElem?_getD, List.getElem?_eq_getElem hj]
    rfl) (fun j hj => h1.2.2 j (by omega))
  rwa [List.take_length] at this
theorem drewN_chg (w : World) (n : Nat) : Chg Nob w (w.drewN n) := ⟨rfl, rfl, rfl, Nat.le_refl _, fun _ _ _ => rfl⟩
theorem grow_chg (w : World) (os : Array Obj) : Chg Nob w (Go.Sort.grow w os) := ⟨rfl, rfl, rfl, by rw [Go.Sort.size_grow]; omega, fun k hk _ => Go.Sort.heap_grow_old w os hk⟩
theorem Row.sorted {S : Nat → Prop} {w : World} {T : TypeId} {g c : Nat} {xs : List Int} (h : Row S w T ei (some ⟨g, 0, none⟩) c xs) (q : Nat) (os : Array Obj) :
    Row S (Go.Sort.grow (Go.Sort.putRow (Value.int .i64) (Go.Sort.ahead w q) g 0 (srt xs).toArray) os) T ei (some ⟨g, 0, none⟩) c (srt xs) ∧ Chg (· = g) w (Go.Sort.grow (Go.Sort.putRow (Value.int .i64) (Go.Sort.ahead w q) g 0 (srt xs).toArray) os) := by
  have hs := srt_len xs
  have hm : ∀ l : List Int, ei.all l = l.map (Value.int .i64) := fun l => by
    induction l with
    | nil => rfl
    | cons x l ih =>
      show [vi x] ++ ei.all l = _
      rw [ih]
      rfl
  rw [Go.Lib.sorted_world (Value.int .i64) w g 0 q xs.toArray (srt xs) os h.holdsI (by rw [hs]; rfl), ← hm]
  have hl : (ei.all xs).length = xs.length := by rw [Enc.all_len]; show xs.length * 1 = _; omega
  have hl2 : (ei.all (srt xs)).length = xs.length := by rw [Enc.all_len, hs]; show xs.length * 1 = _; omega
  have h2 := (h.pure (drewN_chg w q)).splice (o := 0) (vs := ei.all (srt xs)) (ys := srt xs) (by show 0 + _ ≤ xs.length * 1; omega) hs (by rw [Nat.zero_add, hl2, ← hl, List.drop_length, List.take_zero, List.nil_append, List.append_nil])
  exact ⟨h2.1.pure (grow_chg _ _), ((((drewN_chg w q).mono (fun _ _ x => x.elim)).trans (setCells_chg g _ 0 _) (fun _ _ x => x)).pure (grow_chg _ _))⟩
end Go.HL
namespace Go.Proofs.YtggecdldnpildaaGreat
open Go.RowKit Go.HL
set_option maxRecDepth 100000

theorem sort_calls {S : Nat → Prop} {w : World} {ao : Option Addr} {c : Nat} {xs : List Int} (h : Row S w 3 ei ao c xs) (hl : xs.length ≤ 100000) :
    Calls Tryz.prog 51 [.slice ao xs.length c].toArray w (Ret fun v w' => v = .tuple #[] ∧ Row S w' 3 ei ao c (srt xs) ∧ Chg (fun b => Eqb ao b) w w') := by
  rcases Nat.eq_zero_or_pos xs.length with h0 | h0
  · have e : xs = [] := List.length_eq_zero_iff.1 h0
    subst e
    refine (Any.slices_Sort_int_none Tryz.lays189 ao c w).mono ?_
    rintro e w' ⟨rfl, rfl⟩
    exact ⟨_, rfl, rfl, by rw [srt_id (l := []) List.Pairwise.nil]; exact h, Chg.refl _ _⟩
  · obtain ⟨g, rfl⟩ := h.place0 h0
    refine (Any.slices_Sort_int Tryz.lays189 g 0 c xs w h.holdsI (h.own.lt _ rfl) (by omega)).mono ?_
    rintro e w' ⟨rfl, n, os, rfl⟩
    obtain ⟨h1, h2⟩ := h.sorted n os
    exact ⟨_, rfl, rfl, h1, h2.mono (fun b _ e => ⟨_, rfl, e⟩)⟩
end Go.Proofs.YtggecdldnpildaaGreat
namespace Go.HL
open Go.RowKit
/-- a row of numbers among others -/
structure Rz where
  ao : Option Addr
  cap : Nat
  xs : List Int
def erz : Enc Rz := ⟨1, fun r => [.slice r.ao r.xs.length r.cap], fun _ => rfl, by simp [Value.oneCell'], by decide⟩
end Go.HL
namespace Go.Proofs.YtggecdldnpildaaGreat
open Go.RowKit Go.HL
set_option maxRecDepth 100000

/-! rows of numbers: a copy; two of them joined -/
theorem zclone_calls {S : Nat → Prop} {w : World} {ao : Option Addr} {c : Nat} {b : List Int} (hr : RSl S w ei ao c b) (hl : b.length ≤ 100000) :
    Calls Tryz.prog 75 [.slice ao b.length c].toArray w (Ret fun v w' => (∃ (ao' : Option Addr) (c' : Nat), v = .slice ao' b.length c' ∧ Row (w.heap.size ≤ ·) w' 3 ei ao' c' b) ∧ Chg Nob w w') := by
  replace hr := hr.old
  have hw := Chg.refl Nob w
  refine Calls.of_WC Tryz.func75 rfl Tryz.ntmps75 (by simp) ?_
  refine WC.seq (WC.region (WL.assign rfl rfl (WL.nil (WX.then_normal (WC.seq (WC.seq (WC.region (?_))))))))
  refine WL.move rfl rfl (?_)
  refine WL.isNil? Tryz.underlying39 rfl rfl rfl (fun h4 => ?_) (fun h4 => ?_)
  ·
    refine WL.nil (WX.then_normal (WC.cond_true rfl (WC.seq (WC.region (WL.assign rfl rfl (WL.nil (WX.then_normal (?_))))))))
    refine WC.ret (WX.then_ret (?_))
    refine WX.ret1 (.inl rfl) Tryz.results75 rfl ?_
    subst h4
    have hn := hr.none_nil
    subst hn
    exact ⟨_, rfl, ⟨none, 0, rfl, Row.nil _ _ _ _⟩, hw⟩
  ·
    refine WL.nil (WX.then_normal (WC.cond_false rfl (WC.skip (WX.then_normal (WC.seq (WC.region (?_)))))))
    refine WL.build (e := ei) [] Tryz.underlying39 Tryz.sizeOf3 Tryz.zeroValue3 rfl rfl rfl (by simp [Value.cells]; done) (by decide) rfl ?_
    intro a_hq w_hq hq l_hq z_hq k_hq
    have zs_k_hq := k_hq.size
    replace hr := hr.pure k_hq
    replace hw := hw.pure k_hq
    refine WL.move rfl rfl (?_)
    refine WL.append (e := ei) info_3 rfl Tryz.underlying39 rfl rfl hq (hr.src Tryz.underlying39) (by (try simp only [List.length_append, List.length_cons, List.length_nil] at *); omega) (by intro b hb; first | (apply hS; omega) | ((try dsimp only); omega)) rfl ?_
    intro a_hq2 c_hq2 w_hq2 hq2 g_hq2 n_hq2
    have z_hq2 := g_hq2.chg.size
    have zs_g_hq2_chg := g_hq2.chg.size
    replace hr := hr.chg g_hq2.chg (by intros; exfalso; (try dsimp only at *); omega)
    replace hw := hw.chg g_hq2.chg (by intros; exfalso; (try dsimp only at *); omega)
    refine WL.assign rfl rfl (WL.nil (WX.then_normal (WC.ret (?_))))
    refine WX.ret1 (.inl rfl) Tryz.results75 rfl ?_
    exact ⟨_, rfl, ⟨_, _, rfl, hq2⟩, hw⟩
theorem zgrow_calls {w : World} (n : Nat) (hn : n ≤ 100000) : Calls Tryz.prog 71 [.slice none 0 0, vi (n : Int)].toArray w (Ret fun v w' => (∃ g c, v = .slice g 0 c ∧ Row (w.heap.size ≤ ·) w' 3 ei g c []) ∧ Chg Nob w w') := by
  have hw := Chg.refl Nob w
  rcases Nat.eq_zero_or_pos n with h0 | h0
  · subst h0
    refine Calls.of_WC Tryz.func71 rfl Tryz.ntmps71 (by simp) ?_
    refine WC.seq (WC.region (WL.assign rfl rfl (WL.nil (WX.then_normal (WC.seq (WC.seq (WC.region (?_))))))))
    refine WL.move rfl rfl (?_)
    refine WL.lssF rfl rfl rfl (by omega) ?_
    refine WL.nil (WX.then_normal (WC.cond_false rfl (WC.skip (WX.then_normal (WC.seq (WC.seq (WC.region (?_))))))))
    refine WL.move rfl rfl (WL.move rfl rfl (?_))
    refine WL.cap Tryz.underlying39 rfl rfl ?_
    refine WL.move rfl rfl (WL.len Tryz.underlying39 rfl rfl (WL.sub64 rfl rfl (by omega) rfl (WL.sub64 rfl rfl (by omega) rfl (WL.assign rfl rfl (WL.nil (WX.then_normal (WC.seq (?_))))))))
    refine WC.region (WL.move rfl rfl (?_))
    refine WL.gtrF rfl rfl rfl (by omega) ?_
    refine WL.nil (WX.then_normal (WC.cond_false rfl (WC.skip (WX.then_normal (WC.seq (WC.region (WL.move rfl rfl (?_))))))))
    refine WL.assign rfl rfl (WL.nil (WX.then_normal (WC.ret (?_))))
    refine WX.ret1 (.inl rfl) Tryz.results71 rfl ?_
    exact ⟨_, rfl, ⟨none, 0, rfl, Row.nil _ _ _ _⟩, hw⟩
  ·
    refine Calls.of_WC Tryz.func71 rfl Tryz.ntmps71 (by simp) ?_
    refine WC.seq (WC.region (WL.assign rfl rfl (WL.nil (WX.then_normal (WC.seq (WC.seq (WC.region (?_))))))))
    refine WL.move rfl rfl (?_)
    refine WL.lssF rfl rfl rfl (by omega) ?_
    refine WL.nil (WX.then_normal (WC.cond_false rfl (WC.skip (WX.then_normal (WC.seq (WC.seq (WC.region (?_))))))))
    refine WL.move rfl rfl (WL.move rfl rfl (?_))
    refine WL.cap Tryz.underlying39 rfl rfl ?_
    refine WL.move rfl rfl (WL.len Tryz.underlying39 rfl rfl (WL.sub64 rfl rfl (by omega) rfl (WL.sub64 rfl rfl (by omega) rfl (WL.assign rfl rfl (WL.nil (WX.then_normal (WC.seq (?_))))))))
    refine WC.region (WL.move rfl rfl (?_))
    refine WL.gtrT rfl rfl rfl (by omega) ?_
    refine WL.nil (WX.then_normal (WC.cond_true rfl (WC.region (WL.move rfl rfl (WL.move rfl rfl (?_))))))
    refine WL.cap Tryz.underlying39 rfl rfl ?_
    refine WL.sliceN (l := 0) (h := 0) (k := .i64) Tryz.underlying39 Tryz.sizeOf3 rfl (.inr ⟨rfl, rfl⟩) (.inl ⟨rfl, Nat.le_refl _⟩) (Nat.le_refl _) rfl ?_
    refine WL.move rfl rfl (?_)
    refine WL.appendZ (e := ei) (n := n) info_3 rfl Tryz.underlying39 Tryz.underlying3 rfl (by show some (vi ((n : Int) - (((0 : Nat) : Int) - ((0 : Nat) : Int)))) = some (vi (n : Int)); rw [show (n : Int) - (((0 : Nat) : Int) - ((0 : Nat) : Int)) = (n : Int) by omega]) ⟨by omega, by omega, by omega⟩ rfl ?_
    intro g c w3 hr hc k3 eg
    have zs_k3 := k3.size
    replace hw := hw.pure k3
    refine WL.move rfl rfl (WL.len Tryz.underlying39 rfl rfl (?_))
    refine WL.sliceN (l := 0) (h := 0) (k := .i64) Tryz.underlying39 Tryz.sizeOf3 rfl (.inr ⟨rfl, rfl⟩) (.inl ⟨rfl, Nat.zero_le _⟩) (Nat.le_refl _) rfl ?_
    refine WL.assign rfl rfl (WL.nil (WX.then_normal (WC.seq (WC.region (WL.move rfl rfl (WL.assign rfl rfl (WL.nil (?_))))))))
    refine WX.then_normal (WC.ret (?_))
    refine WX.ret1 (.inl rfl) Tryz.results71 rfl ?_
    have e1 : cutAt (some (⟨g, 0, none⟩ : Addr)) c 0 1 = some ⟨g, 0, none⟩ := by unfold cutAt; split <;> simp [Addr.add_lit]
    refine ⟨_, rfl, ⟨some ⟨g, 0, none⟩, c, ?_, hr.mono (fun b hb => by have h9 : b = g := hb; show w.heap.size ≤ b; omega)⟩, hw⟩
    simp [e1]
theorem zconcat_calls {S S1 : Nat → Prop} {w : World} {ao : Option Addr} {c : Nat} {r1 r2 : Rz} (ho : RSl S w erz ao c [r1, r2]) (h1 : RSl S1 w ei r1.ao r1.cap r1.xs) (h2 : RSl S1 w ei r2.ao r2.cap r2.xs) (l1 : r1.xs.length ≤ 10000) (l2 : r2.xs.length ≤ 10000) :
    Calls Tryz.prog 50 [.slice ao 2 c].toArray w (Ret fun v w' => (∃ g c2, v = .slice g (r1.xs ++ r2.xs).length c2 ∧ Row (w.heap.size ≤ ·) w' 3 ei g c2 (r1.xs ++ r2.xs)) ∧ Chg Nob w w') := by
  have hw := Chg.refl Nob w
  replace ho := ho.old
  replace h1 := h1.old
  replace h2 := h2.old
  obtain ⟨sm, hsm⟩ : ∃ sm : Nat → Nat, sm = fun i => if i = 0 then 0 else if i = 1 then r1.xs.length else r1.xs.length + r2.xs.length := ⟨_, rfl⟩
  obtain ⟨jn, hjn⟩ : ∃ jn : Nat → List Int, jn = fun i => if i = 0 then [] else if i = 1 then r1.xs else r1.xs ++ r2.xs := ⟨_, rfl⟩
  have hs0 : sm 0 = 0 := by rw [hsm]; rfl
  have hj0 : jn 0 = [] := by rw [hjn]; rfl
  have hs2 : sm 2 = r1.xs.length + r2.xs.length := by rw [hsm]; rfl
  have hst : ∀ i r, i < 2 → [r1, r2][i]? = some r → sm (i + 1) = sm i + r.xs.length ∧ r.xs.length ≤ 10000 ∧ sm i ≤ 10000 ∧ jn (i + 1) = jn i ++ r.xs ∧ (jn i).length ≤ 10000 := fun i r hi hr => by
    have h3 : i = 0 ∨ i = 1 := by omega
    rcases h3 with rfl | rfl
    · injection hr with hr
      subst hr
      rw [hsm, hjn]
      exact ⟨by simp, by omega, by simp, by simp, by simp⟩
    · injection hr with hr
      subst hr
      rw [hsm, hjn]
      exact ⟨by simp, by omega, by simp; omega, by simp, by simp; omega⟩
  refine Calls.of_WC Tryz.func50 rfl Tryz.ntmps50 (by simp) ?_
  refine WC.seq (WC.region (WL.assign rfl rfl (WL.nil (WX.then_normal (WC.seq (WC.region (WL.assign rfl rfl (?_))))))))
  refine WL.nil (WX.then_normal (WC.seq (WC.seq (WC.region (WL.move rfl rfl (WL.len Tryz.underlying124 rfl rfl (WL.move rfl rfl (?_))))))))
  refine WL.nil (WX.then_normal (WC.block (?_)))
  refine WC.loop (σ := Nat) (fun i => [(0, .slice ao 2 c), (3, vi (sm i : Int)), (9, .slice ao 2 c), (10, vi 2), (11, vi (i : Int))]) (fun i w' => i ≤ 2 ∧ RSl (· < w.heap.size) w' erz ao c [r1, r2] ∧ RSl (· < w.heap.size) w' ei r1.ao r1.cap r1.xs ∧ RSl (· < w.heap.size) w' ei r2.ao r2.cap r2.xs ∧ Chg Nob w w') (fun i => 2 - i) 0 ⟨rfl, by rw [hs0]; rfl, rfl, rfl, rfl, trivial⟩ ⟨Nat.zero_le _, ho, h1, h2, hw⟩ ?_
  clear ho h1 h2 hw
  rintro i w1 ⟨hi, ho, h1, h2, hw⟩
  refine WC.seq (WC.region (?_))
  refine WL.lss? rfl rfl rfl (fun h12 => ?_) (fun h12 => ?_)
  ·
    refine WL.nil (WX.then_normal (WC.seq (WC.cond_true rfl (WC.skip (WX.then_normal (WC.seq (WC.block (?_))))))))
    refine WC.seq (WC.region (?_))
    obtain ⟨r, hr⟩ : ∃ r, [r1, r2][i]? = some r := ⟨_, List.getElem?_eq_getElem (by simp; omega)⟩
    obtain ⟨e1, e2, e3, -, -⟩ := hst i r (by omega) hr
    refine WL.indexT (e := erz) Tryz.underlying124 Tryz.sizeOf39 ho rfl rfl ⟨hr, rfl⟩ rfl ?_
    intro bb oo hcc
    refine WL.load Tryz.isAgg39 rfl (hcc 0 _ rfl) rfl ?_
    refine WL.assign rfl rfl (WL.nil (WX.then_normal (WC.seq (WC.region (WL.move rfl rfl (WL.move rfl rfl (WL.len Tryz.underlying39 rfl rfl (?_))))))))
    refine WL.add64 rfl rfl (by omega) rfl (WL.assign rfl rfl (WL.nil (WX.then_normal (WC.seq (WC.region (WL.move rfl rfl (?_)))))))
    refine WL.lssF rfl rfl rfl (by omega) ?_
    refine WL.nil (WX.then_normal (WC.cond_false rfl (WC.skip (WX.block_normal (WX.then_normal (WC.region (WL.add64 rfl rfl (by omega) rfl (?_))))))))
    refine WL.move rfl rfl (WL.nil (?_))
    exact WX.loop_next (i + 1) ⟨rfl, by simp [List.lookup, ev, e1], rfl, rfl, rfl, trivial⟩ ⟨by omega, ho, h1, h2, hw⟩ (by omega)
  ·
    refine WL.nil (WX.then_normal (WC.seq (WC.cond_false rfl (WC.exit (WX.then_exit (WX.then_exit (WX.block_here (?_))))))))
    refine WX.then_normal (WC.seq (WC.region (WL.move rfl rfl (?_))))
    have hi2 : i = 2 := by omega
    subst hi2
    rw [hs2]
    have zw1 := hw.size
    refine WL.call eg_71 rfl rfl (zgrow_calls (r1.xs.length + r2.xs.length) (by omega)) ?_
    rintro v w2 ⟨⟨g, cg, rfl, hg⟩, k2⟩
    have zs_k2 := k2.size
    replace ho := ho.pure k2
    replace h1 := h1.pure k2
    replace h2 := h2.pure k2
    replace hw := hw.pure k2
    refine WL.assign rfl rfl (WL.nil (WX.then_normal (WC.seq (WC.seq (WC.region (WL.move rfl rfl (WL.len Tryz.underlying124 rfl rfl (?_))))))))
    refine WL.move rfl rfl (WL.nil (WX.then_normal (WC.block (?_))))
    refine WC.loop (σ := Nat × Option Addr × Nat) (fun q => [(0, .slice ao 2 c), (6, .slice q.2.1 (jn q.1).length q.2.2), (25, .slice ao 2 c), (26, vi 2), (27, vi (q.1 : Int))]) (fun q w' => q.1 ≤ 2 ∧ RSl (· < w.heap.size) w' erz ao c [r1, r2] ∧ RSl (· < w.heap.size) w' ei r1.ao r1.cap r1.xs ∧ RSl (· < w.heap.size) w' ei r2.ao r2.cap r2.xs ∧ Row (w.heap.size ≤ ·) w' 3 ei q.2.1 q.2.2 (jn q.1) ∧ Chg Nob w w') (fun q => 2 - q.1) (0, g, cg) ⟨rfl, by rw [hj0]; rfl, rfl, rfl, rfl, trivial⟩ ⟨Nat.zero_le _, ho, h1, h2, by rw [hj0]; exact hg.mono (fun b hb => by have h9 : _ ≤ b := hb; show w.heap.size ≤ b; omega), hw⟩ ?_
    clear ho h1 h2 hw hg
    rintro ⟨i, g, cg⟩ w1 ⟨hi, ho, h1, h2, hg, hw⟩
    simp only at hi hg
    dsimp only
    have zw1 := hw.size
    refine WC.seq (WC.region (?_))
    refine WL.lss? rfl rfl rfl (fun h28 => ?_) (fun h28 => ?_)
    ·
      refine WL.nil (WX.then_normal (WC.seq (WC.cond_true rfl (WC.skip (WX.then_normal (WC.seq (WC.block (?_))))))))
      refine WC.seq (WC.region (?_))
      obtain ⟨r, hr⟩ : ∃ r, [r1, r2][i]? = some r := ⟨_, List.getElem?_eq_getElem (by simp; omega)⟩
      obtain ⟨-, e2, -, e4, e5⟩ := hst i r (by omega) hr
      have hri : RSl (· < w.heap.size) w1 ei r.ao r.cap r.xs := by
        have h3 : i = 0 ∨ i = 1 := by omega
        rcases h3 with rfl | rfl
        ·
          injection hr with hr; subst hr; exact h1
        ·
          injection hr with hr; subst hr; exact h2
      refine WL.indexT (e := erz) Tryz.underlying124 Tryz.sizeOf39 ho rfl rfl ⟨hr, rfl⟩ rfl ?_
      intro bb oo hcc
      refine WL.load Tryz.isAgg39 rfl (hcc 0 _ rfl) rfl ?_
      refine WL.assign rfl rfl (WL.nil (WX.then_normal (WC.region (WL.move rfl rfl (WL.move rfl rfl (?_))))))
      refine WL.append (e := ei) info_3 rfl Tryz.underlying39 rfl rfl hg (hri.src Tryz.underlying39) (by constructor <;> omega) (fun b hb => by have h9 : _ ≤ b := hb; show w.heap.size ≤ b; omega) rfl ?_
      intro a2 c2 w5 hg2 gg nn
      replace ho := ho.chg gg.chg (fun b _ h2 h3 => by have := h3.2; omega)
      replace h1 := h1.chg gg.chg (fun b _ h2 h3 => by have := h3.2; omega)
      replace h2 := h2.chg gg.chg (fun b _ h2 h3 => by have := h3.2; omega)
      replace hw := hw.chg gg.chg (fun b h2 h3 => by have := h3.2; omega)
      rw [← e4] at hg2 ⊢
      refine WL.assign rfl rfl (WL.nil (WX.block_normal (WX.then_normal (WC.region (WL.add64 rfl rfl (by omega) rfl (WL.move rfl rfl (WL.nil (?_))))))))
      exact WX.loop_next (i + 1, a2, c2) ⟨rfl, rfl, rfl, rfl, rfl, trivial⟩ ⟨by show i + 1 ≤ 2; omega, ho, h1, h2, hg2, hw⟩ (by show 2 - (i + 1) < 2 - i; omega)
    ·
      refine WL.nil (WX.then_normal (WC.seq (WC.cond_false rfl (WC.exit (WX.then_exit (WX.then_exit (WX.block_here (?_))))))))
      refine WX.then_normal (WC.seq (WC.region (WL.move rfl rfl (WL.assign rfl rfl (WL.nil (WX.then_normal (WC.ret (?_))))))))
      refine WX.ret1 (.inl rfl) Tryz.results50 rfl ?_
      have hi2 : i = 2 := by omega
      subst hi2
      have e2 : jn 2 = r1.xs ++ r2.xs := by rw [hjn]; rfl
      rw [e2] at hg ⊢
      exact ⟨_, rfl, ⟨g, cg, rfl, hg⟩, hw⟩
/-! the drives that aren't gone -/
abbrev fnGon (g : Nat) : Value := .func (.func 47) #[] #[ptr g]
theorem isgon_calls {S : Nat → Prop} {w : World} {g : Nat} {ga : Option Addr} {gc : Nat} {G : List Int} (hD : Blk w g 39 [.slice ga G.length gc]) (hG : RSl S w ei ga gc G) (hl : G.length ≤ 100000) (x : Int) : Calls Tryz.prog 47 [vi x, ptr g].toArray w (Ret fun v w' => v = .bool (decide (x ∈ G)) ∧ Chg Nob w w') := by
  have hw := Chg.refl Nob w
  refine Calls.of_WC Tryz.func47 rfl Tryz.ntmps47 (by simp) ?_
  refine WC.seq (WC.region (WL.assign rfl rfl (WL.nil (WX.then_normal (WC.seq (WC.region (WL.loadB Tryz.isAgg39 hD rfl rfl rfl (?_))))))))
  refine WL.move rfl rfl (?_)
  refine WL.call eg_48 rfl rfl (contains_calls hG (by omega) x) ?_
  rintro v w2 ⟨rfl, k2⟩
  have zs_k2 := k2.size
  replace hD := hD.pure k2
  replace hG := hG.pure k2
  replace hw := hw.pure k2
  refine WL.assign rfl rfl (WL.nil (WX.then_normal (WC.ret (?_))))
  refine WX.ret1 (.inl rfl) Tryz.results47 rfl ?_
  exact ⟨_, rfl, rfl, hw⟩
theorem zindex_calls {S S2 : Nat → Prop} {w : World} {g : Nat} {ga : Option Addr} {gc : Nat} {G : List Int} (hD : Blk w g 39 [.slice ga G.length gc]) (hG : RSl S2 w ei ga gc G) (hl : G.length ≤ 100000) {wa : Option Addr} {wc : Nat} {ws : List Int} (hW : Row S w 3 ei wa wc ws) :
    Calls Tryz.prog 69 [.slice wa ws.length wc, fnGon g].toArray w (Ret fun v w' => (∃ k : Int, v = vi k ∧ ((k = -1 ∧ ∀ x ∈ ws, x ∉ G) ∨ ∃ (i : Nat) (x : Int), k = (i : Int) ∧ ws[i]? = some x ∧ x ∈ G ∧ ∀ j x, j < i → ws[j]? = some x → x ∉ G)) ∧ Chg Nob w w') := by
  have hw := Chg.refl Nob w
  have hws : ws.length ≤ 9223372036854775807 := by
    have hcap := hW.own.cap
    rcases hW.own.2.2 with ⟨_, h⟩ | ⟨_, _, _, _, _, _, h, _⟩
    · omega
    · simp only [maxLen] at h; omega
  refine Calls.of_WC Tryz.func69 rfl Tryz.ntmps69 (by simp) ?_
  refine WC.seq (WC.region (WL.assign rfl rfl (WL.nil (WX.then_normal (WC.seq (WC.seq (WC.region (?_))))))))
  refine WL.move rfl rfl (WL.len Tryz.underlying39 rfl rfl (WL.move rfl rfl (WL.nil (WX.then_normal (WC.block (?_))))))
  refine WC.loop (σ := Nat) (fun i => [(0, .slice wa ws.length wc), (1, fnGon g), (7, vi ws.length), (8, vi (i : Int))]) (fun i w' => i ≤ ws.length ∧ Blk w' g 39 [.slice ga G.length gc] ∧ RSl S2 w' ei ga gc G ∧ Row S w' 3 ei wa wc ws ∧ Chg Nob w w' ∧ ∀ j x, j < i → ws[j]? = some x → x ∉ G) (fun i => ws.length - i) 0 ⟨rfl, rfl, rfl, rfl, trivial⟩ ⟨Nat.zero_le _, hD, hG, hW, hw, fun j x hj => by omega⟩ ?_
  clear hD hG hW hw
  rintro i w1 ⟨hi, hD, hG, hW, hw, hno⟩
  refine WC.seq (WC.region (?_))
  refine WL.lss? rfl rfl rfl (fun h9 => ?_) (fun h9 => ?_)
  ·
    refine WL.nil (WX.then_normal (WC.seq (WC.cond_true rfl (WC.skip (WX.then_normal (WC.seq (WC.block (?_))))))))
    refine WC.seq (WC.region (WL.move rfl rfl (WL.assign rfl rfl (WL.nil (WX.then_normal (WC.seq (WC.region (?_))))))))
    refine WL.move rfl rfl (WL.move rfl rfl (WL.move rfl rfl (?_)))
    obtain ⟨x, hx⟩ : ∃ x, ws[i]? = some x := ⟨_, List.getElem?_eq_getElem (by omega)⟩
    refine WL.indexT (e := ei) Tryz.underlying39 Tryz.sizeOf3 hW.rsl rfl rfl ⟨hx, rfl⟩ rfl ?_
    intro bb oo hcc
    refine WL.load Tryz.isAgg3 rfl (hcc 0 _ rfl) rfl (?_)
    refine WL.callv eg_47 rfl rfl rfl (isgon_calls hD hG hl x) ?_
    rintro v w2 ⟨rfl, k2⟩
    have zs_k2 := k2.size
    replace hD := hD.pure k2
    replace hG := hG.pure k2
    replace hW := hW.pure k2
    replace hw := hw.pure k2
    by_cases hxG : x ∈ G
    ·
      rw [decide_eq_true hxG]
      refine WL.nil (WX.then_normal (WC.cond_true rfl (WC.seq (WC.region (WL.move rfl rfl (WL.assign rfl rfl (WL.nil (?_))))))))
      refine WX.then_normal (WC.ret (WX.block_ret (WX.then_ret (WX.then_ret (WX.block_ret (WX.then_ret (?_)))))))
      refine WX.ret1 (.inl rfl) Tryz.results69 rfl ?_
      exact ⟨_, rfl, ⟨_, rfl, .inr ⟨i, x, rfl, hx, hxG, hno⟩⟩, hw⟩
    ·
      rw [decide_eq_false hxG]
      refine WL.nil (WX.then_normal (WC.cond_false rfl (WC.skip (WX.block_normal (WX.then_normal (WC.region (WL.add64 rfl rfl (by omega) rfl (?_))))))))
      refine WL.move rfl rfl (WL.nil (?_))
      refine WX.loop_next (i + 1) ⟨rfl, rfl, rfl, rfl, trivial⟩ ⟨by omega, hD, hG, hW, hw, fun j y hj hy => ?_⟩ (by omega)
      rcases Nat.lt_or_ge j i with h1 | h1
      ·
        exact hno j y h1 hy
      ·
        have h2 : j = i := by omega
        subst h2
        rw [hx] at hy
        injection hy with hy
        subst hy
        exact hxG
  ·
    refine WL.nil (WX.then_normal (WC.seq (WC.cond_false rfl (WC.exit (WX.then_exit (WX.then_exit (WX.block_here (?_))))))))
    refine WX.then_normal (WC.seq (WC.region (WL.assign rfl rfl (WL.nil (WX.then_normal (WC.ret (?_)))))))
    refine WX.ret1 (.inl rfl) Tryz.results69 rfl ?_
    refine ⟨_, rfl, ⟨_, rfl, .inl ⟨rfl, fun y hy => ?_⟩⟩, hw⟩
    obtain ⟨k, hk, rfl⟩ := List.getElem_of_mem hy
    exact hno k _ (by omega) (List.getElem?_eq_getElem hk)
def rstA (G ws : List Int) : List Int := ws.filter fun d => !decide (d ∈ G)
theorem rstA_all {G ws : List Int} (h : ∀ x ∈ ws, x ∉ G) : rstA G ws = ws := List.filter_eq_self.2 fun x hx => by simp [h x hx]
theorem rstA_snoc {G ws : List Int} {j : Nat} {x : Int} (hx : ws[j]? = some x) : rstA G (ws.take (j + 1)) = if x ∈ G then rstA G (ws.take j) else rstA G (ws.take j) ++ [x] := by
  unfold rstA
  rw [List.take_add_one, hx, Option.toList_some, List.filter_append]
  by_cases h : x ∈ G <;> simp [h]
theorem rst_calls {S S2 : Nat → Prop} {w : World} {g : Nat} {ga : Option Addr} {gc : Nat} {G : List Int} (hD : Blk w g 39 [.slice ga G.length gc]) (hG : RSl S2 w ei ga gc G) (hl : G.length ≤ 100000) {wa : Option Addr} {wc : Nat} {ws : List Int} (hW : Row S w 3 ei wa wc ws) (hSS : ∀ b, S b → S2 b → False) (hSg : ∀ b, S b → b ≠ g) :
    Calls Tryz.prog 46 [.slice wa ws.length wc, fnGon g].toArray w (Ret fun v w' => v = .slice wa (rstA G ws).length wc ∧ Row S w' 3 ei wa wc (rstA G ws) ∧ Chg (fun b => Eqb wa b) w w') := by
  have hw := Chg.refl (fun b => Eqb wa b) w
  have hat := hW.at_
  have hws : ws.length ≤ 9223372036854775807 := by
    have hcap := hW.own.cap
    rcases hW.own.2.2 with ⟨_, h⟩ | ⟨_, _, _, _, _, _, h, _⟩
    · omega
    · simp only [maxLen] at h; omega
  refine Calls.of_WC Tryz.func46 rfl Tryz.ntmps46 (by simp) ?_
  refine WC.seq (WC.region (WL.assign rfl rfl (WL.nil (WX.then_normal (WC.seq (WC.region (WL.move rfl rfl (?_))))))))
  refine WL.move rfl rfl (?_)
  refine WL.call eg_69 rfl rfl (zindex_calls hD hG hl hW) ?_
  rintro v w2 ⟨⟨k, rfl, hix⟩, k2⟩
  have zs_k2 := k2.size
  replace hD := hD.pure k2
  replace hG := hG.pure k2
  replace hW := hW.pure k2
  replace hw := hw.pure k2
  refine WL.assign rfl rfl (WL.nil (WX.then_normal (WC.seq (WC.seq (WC.region (WL.move rfl rfl (?_)))))))
  refine WL.eql? rfl rfl rfl (fun h12 => ?_) (fun h12 => ?_)
  ·
    refine WL.nil (WX.then_normal (WC.cond_true rfl (WC.seq (WC.region (WL.move rfl rfl (WL.assign rfl rfl (WL.nil (?_))))))))
    refine WX.then_normal (WC.ret (WX.then_ret (?_)))
    refine WX.ret1 (.inl rfl) Tryz.results46 rfl ?_
    have hk1 : k = -1 := h12
    rcases hix with ⟨-, hno⟩ | ⟨i0, x0, e0, -⟩
    ·
      rw [rstA_all hno]
      exact ⟨_, rfl, rfl, hW, hw⟩
    ·
      omega
  ·
    refine WL.nil (WX.then_normal (WC.cond_false rfl (WC.skip (WX.then_normal (WC.seq (WC.seq (WC.region (?_))))))))
    refine WL.move rfl rfl (?_)
    obtain ⟨i0, x0, rfl, hx0, hxd, hno⟩ := hix.resolve_left (fun h => h12 h.1)
    have hi0 := (List.getElem?_eq_some_iff.1 hx0).1
    obtain ⟨gw, rfl⟩ := hW.place0 hi0
    have lgw := hW.own.lt _ rfl
    have hSw : S gw := hat _ rfl
    have h0i : ws.take i0 = rstA G (ws.take (i0 + 1)) := by
      rw [rstA_snoc hx0, if_pos hxd, rstA_all]
      intro x hx
      obtain ⟨k, hk, rfl⟩ := List.getElem_of_mem hx
      have hk2 : k < i0 := by simp at hk; omega
      refine hno k _ hk2 ?_
      rw [List.getElem_take]
      exact List.getElem?_eq_getElem (by omega)
    refine WL.add64 rfl rfl (by constructor <;> omega) rfl ?_
    refine WL.assign rfl rfl (WL.nil (WX.then_normal (WC.block (?_))))
    have zw := hw.size
    refine WC.loop (σ := Nat × Nat × List Int) (fun q => [(0, .slice (some ⟨gw, 0, none⟩) ws.length wc), (1, fnGon g), (5, vi (q.1 : Int)), (6, vi (q.2.1 : Int))]) (fun q w' => (q.1 < q.2.1 ∧ q.2.1 ≤ ws.length) ∧ q.2.2.length = ws.length ∧ q.2.2.take q.1 = rstA G (ws.take q.2.1) ∧ (∀ k, q.2.1 ≤ k → q.2.2[k]? = ws[k]?) ∧ Blk w' g 39 [.slice ga G.length gc] ∧ RSl S2 w' ei ga gc G ∧ Row S w' 3 ei (some ⟨gw, 0, none⟩) wc q.2.2 ∧ Chg (fun b => Eqb (some ⟨gw, 0, none⟩) b) w w') (fun q => ws.length - q.2.1) (i0, i0 + 1, ws) ⟨rfl, rfl, rfl, rfl, trivial⟩ ⟨⟨Nat.lt_succ_self _, hi0⟩, rfl, h0i, fun _ _ => rfl, hD, hG, hW, hw⟩ ?_
    clear hD hG hW hw
    rintro ⟨i, j, xs⟩ w1 ⟨⟨hij, hj⟩, hlen, htk, hdr, hD, hG, hW, hw⟩
    simp only at hij hj hlen htk hdr hW
    dsimp only
    refine WC.seq (WC.seq (WC.region (WL.move rfl rfl (WL.move rfl rfl (WL.len Tryz.underlying39 rfl rfl (?_))))))
    refine WL.lss? rfl rfl rfl (fun h19 => ?_) (fun h19 => ?_)
    ·
      refine WL.nil (WX.then_normal (WC.cond_true rfl (WC.skip (WX.then_normal (WC.seq (WC.block (WC.seq (?_))))))))
      refine WC.region (WL.move rfl rfl (WL.move rfl rfl (?_)))
      obtain ⟨x, hx⟩ : ∃ x, ws[j]? = some x := ⟨_, List.getElem?_eq_getElem (by omega)⟩
      have hx2 : xs[j]? = some x := (hdr j (Nat.le_refl _)).trans hx
      refine WL.indexT (e := ei) Tryz.underlying39 Tryz.sizeOf3 hW.rsl (show _ = some (Value.slice (some ⟨gw, 0, none⟩) xs.length wc) from by rw [hlen]; rfl) rfl ⟨hx2, rfl⟩ rfl ?_
      intro bb oo hcc
      refine WL.load Tryz.isAgg3 rfl (hcc 0 _ rfl) rfl (WL.assign rfl rfl (WL.nil (WX.then_normal (WC.seq (WC.region (WL.move rfl rfl (WL.move rfl rfl (?_))))))))
      refine WL.callv eg_47 rfl rfl rfl (isgon_calls hD hG hl x) ?_
      rintro v w3 ⟨rfl, k3⟩
      have zs_k3 := k3.size
      replace hD := hD.pure k3
      replace hG := hG.pure k3
      replace hW := hW.pure k3
      replace hw := hw.pure k3
      by_cases hxG : x ∈ G
      ·
        rw [decide_eq_true hxG]
        refine WL.not rfl rfl ?_
        refine WL.nil (WX.then_normal (WC.cond_false rfl (WC.skip (WX.block_normal (WX.then_normal (WC.region (WL.move rfl rfl (?_))))))))
        refine WL.add64 rfl rfl (by omega) rfl (WL.assign rfl rfl (WL.nil (?_)))
        refine WX.loop_next (i, j + 1, xs) ⟨rfl, rfl, rfl, rfl, trivial⟩ ⟨⟨by show i < j + 1; omega, by show j + 1 ≤ _; omega⟩, hlen, ?_, ?_, hD, hG, hW, hw⟩ (by show ws.length - (j + 1) < ws.length - j; omega)
        ·
          show xs.take i = rstA G (ws.take (j + 1))
          rw [rstA_snoc hx, if_pos hxG, htk]
        ·
          intro k hk
          have hk' : j + 1 ≤ k := hk
          exact hdr k (by omega)
      ·
        rw [decide_eq_false hxG]
        refine WL.not rfl rfl ?_
        refine WL.nil (WX.then_normal (WC.cond_true rfl (WC.seq (WC.region (WL.move rfl rfl (WL.move rfl rfl (WL.move rfl rfl (?_))))))))
        refine WL.index (j := i) Tryz.underlying39 Tryz.sizeOf3 rfl rfl rfl (by omega) rfl ?_
        refine WL.storeRow (z := x) i Tryz.sizeOf3 hW rfl rfl rfl (by show 0 + i * 1 = i; omega) (by omega) rfl ?_
        intro w8 z8 hW8 k8
        replace hD := hD.chg k8 (fun h => hSg gw hSw h.symm)
        replace hG := hG.chg k8 (fun b _ h1 h2 => hSS gw hSw ((show b = gw from h2) ▸ h1))
        replace hw := hw.chg k8 (fun x _ h => ⟨_, rfl, h⟩)
        refine WL.nil (WX.then_normal (WC.region (WL.move rfl rfl (WL.add64 rfl rfl (by omega) rfl (WL.assign rfl rfl (WL.nil (WX.block_normal (?_))))))))
        refine WX.then_normal (WC.region (WL.move rfl rfl (WL.add64 rfl rfl (by omega) rfl (WL.assign rfl rfl (WL.nil (?_))))))
        refine WX.loop_next (i + 1, j + 1, xs.set i x) ⟨rfl, rfl, rfl, rfl, trivial⟩ ⟨⟨by show i + 1 < j + 1; omega, by show j + 1 ≤ _; omega⟩, by show (xs.set i x).length = _; rw [List.length_set, hlen], ?_, ?_, hD, hG, hW8, hw⟩ (by show ws.length - (j + 1) < ws.length - j; omega)
        ·
          show (xs.set i x).take (i + 1) = rstA G (ws.take (j + 1))
          rw [rstA_snoc hx, if_neg hxG, ← htk, List.take_add_one, List.take_set_of_le (Nat.le_refl _), List.getElem?_set_self (by omega)]
          rfl
        ·
          intro k hk
          have hk' : j + 1 ≤ k := hk
          show (xs.set i x)[k]? = ws[k]?
          rw [List.getElem?_set_ne (by omega)]
          exact hdr k (by omega)
    ·
      refine WL.nil (WX.then_normal (WC.cond_false rfl (WC.exit (WX.then_exit (WX.then_exit (WX.block_here (WX.then_normal (?_))))))))
      refine WC.seq (WC.region (WL.move rfl rfl (WL.move rfl rfl (?_))))
      refine WL.sliceC (e := ei) (l := i) (h := xs.length) (k := .i64) (j := .i64) Tryz.underlying39 Tryz.sizeOf3 hW.rsl (by rw [hlen]; rfl) (.inl rfl) (.inr ⟨rfl, rfl⟩) ⟨by omega, Nat.le_refl _⟩ rfl ?_
      refine WL.clearTail (e := ei) (i := i) Tryz.underlying39 Tryz.zeroValue3 rfl (by simp [Value.cells, Value.oneCell']) hW (by rw [List.take_length, List.length_drop]; omega) rfl ?_
      intro w9 z9 hW9 k9
      replace hD := hD.chg k9 (fun h => hSg gw hSw h.symm)
      replace hG := hG.chg k9 (fun b _ h1 h2 => hSS gw hSw ((show b = gw from h2) ▸ h1))
      replace hw := hw.chg k9 (fun x _ h => ⟨_, rfl, h⟩)
      refine WL.nil (WX.then_normal (WC.seq (WC.region (WL.move rfl rfl (WL.move rfl rfl (?_))))))
      refine WL.sliceRow (e := ei) (i := i) Tryz.underlying39 Tryz.sizeOf3 rfl rfl (by have := hW9.own.cap; rw [List.length_take] at this; omega) rfl ?_
      refine WL.assign rfl rfl (WL.nil (WX.then_normal (WC.ret (?_))))
      refine WX.ret1 (.inl rfl) Tryz.results46 rfl ?_
      have hjl : j = ws.length := by omega
      subst hjl
      rw [List.take_length] at htk
      have hil : (rstA G ws).length = i := by rw [← htk, List.length_take]; omega
      rw [htk] at hW9
      exact ⟨_, rfl, by rw [hil], hW9, hw⟩
end Go.Proofs.YtggecdldnpildaaGreat
namespace Go.Proofs.YtggecdldnpildaaGreat
open Go.RowKit Go.HL
set_option maxRecDepth 100000

/-! a block's drives -/
theorem drives_good {A : Nat → Prop} {w : World} {a R f : Nat} {s : RA} (hB : AB w a R s.dn f) (h : RK A w R s) (h5 : 5 ≤ s.dn) (hf : f < s.sn) (addr size : Nat) (hs : 1 ≤ size ∧ size ≤ 1024) (ha : addr + costA s.dn (secsA size) ≤ s.dn * (s.sn - f)) :
    Calls Tryz.prog 21 [ptr a, vi addr, vi size].toArray w (Ret fun v w' => (∃ ao c, v = .tuple #[.slice ao (bdrv s addr size).length c, vi 0] ∧ Row (w.heap.size ≤ ·) w' 3 ei ao c (bdrv s addr size)) ∧ Chg Nob w w') := by
  have hw := Chg.refl Nob w
  have la := hB.lt
  have hdn := h.ok.dn
  have hsn := h.ok.sn
  have hm : s.dn * (s.sn - f) ≤ 16 * 2000 := Nat.mul_le_mul (by omega) (by omega)
  have h8 := secsA_le hs.2
  have h20 := (costA_is ⟨h5, hdn.2⟩ h8).2
  have ecost : costA s.dn (secsA size) = costA s.dn (secsA size) := rfl
  obtain ⟨cost, hcost⟩ : ∃ c, c = costA s.dn (secsA size) := ⟨_, rfl⟩
  rw [← hcost] at ha h20
  refine Calls.of_WC Tryz.func21 rfl Tryz.ntmps21 (by simp) ?_
  refine WC.seq (WC.region (WL.assign rfl rfl (WL.assign rfl rfl (WL.nil (WX.then_normal (WC.seq (WC.region (?_))))))))
  refine WL.move rfl rfl (WL.move rfl rfl (?_))
  refine WL.call eg_15 rfl rfl (cost_good hB ⟨h5, hdn.2⟩ size hs) ?_
  rintro v w1 ⟨rfl, k1⟩
  rw [← hcost]
  have zs_k1 := k1.size
  replace hB := hB.pure k1
  replace h := h.pure k1
  replace hw := hw.pure k1
  refine WL.move rfl rfl (WL.extract rfl rfl rfl (WL.extract rfl rfl rfl (WL.assign rfl rfl (WL.assign rfl rfl (WL.nil (WX.then_normal (WC.seq (?_))))))))
  refine WC.seq (WC.region (WL.move rfl rfl (?_)))
  refine WL.neqF rfl rfl rfl (by rfl) ?_
  refine WL.move rfl rfl (WL.want rfl rfl rfl (WL.move rfl rfl (WL.want rfl rfl rfl (?_))))
  refine WL.lssF rfl rfl rfl (by omega) ?_
  refine WL.pickF rfl rfl rfl (WL.move rfl rfl (WL.want rfl rfl rfl (WL.move rfl rfl (WL.want rfl rfl rfl (WL.move rfl rfl (WL.want rfl rfl rfl (?_)))))))
  refine WL.call eg_16 rfl rfl (Cells_calls hB h hf) ?_
  rintro v w1 ⟨rfl, k1⟩
  have zs_k1 := k1.size
  replace hB := hB.pure k1
  replace h := h.pure k1
  replace hw := hw.pure k1
  refine WL.want rfl rfl rfl (WL.move rfl rfl (WL.want rfl rfl rfl (?_)))
  refine WL.sub64 rfl rfl (by constructor <;> omega) rfl ?_
  refine WL.want rfl rfl rfl (?_)
  refine WL.gtrF rfl rfl rfl (by omega) ?_
  refine WL.pickF rfl rfl rfl (WL.nil (WX.then_normal (WC.cond_false rfl (WC.skip (WX.then_normal (WC.seq (WC.region (?_))))))))
  refine WL.assign rfl rfl (WL.nil (WX.then_normal (WC.seq (WC.seq (WC.region (WL.move rfl rfl (WL.move rfl rfl (?_))))))))
  refine WL.nilCheck rfl rfl (WL.fieldAddr (fld_81_1) rfl rfl (WL.loadB Tryz.isAgg3 hB rfl rfl rfl (?_)))
  refine WL.mini rfl rfl rfl ?_
  rw [show (if (s.dn : Int) < (cost : Int) then (s.dn : Int) else (cost : Int)) = ((min cost s.dn : Nat) : Int) from by split <;> omega]
  refine WL.move rfl rfl (WL.nil (WX.then_normal (WC.block (?_))))
  obtain ⟨m, hmm⟩ : ∃ m, m = min cost s.dn := ⟨_, rfl⟩
  obtain ⟨L, hL⟩ : ∃ L : Nat → List Int, L = fun i => (List.range i).map fun c => (((addr + c) % s.dn : Nat) : Int) := ⟨_, rfl⟩
  have hLl : ∀ i, (L i).length = i := fun i => by rw [hL]; simp
  have hLs : ∀ i, L (i + 1) = L i ++ [(((addr + i) % s.dn : Nat) : Int)] := fun i => by rw [hL]; simp [List.range_succ]
  rw [← hmm]
  refine WC.loop (σ := (Option Addr × Nat) × Nat) (fun q => [(0, ptr a), (1, vi addr), (10, .slice q.1.1 (L q.2).length q.1.2), (37, vi (m : Nat)), (38, vi (q.2 : Int))]) (fun q w' => q.2 ≤ m ∧ AB w' a R s.dn f ∧ Row (w.heap.size ≤ ·) w' 3 ei q.1.1 q.1.2 (L q.2) ∧ Chg Nob w w') (fun q => m - q.2) ((none, 0), 0) ⟨rfl, rfl, by show some (Value.slice none 0 0) = some (Value.slice none (L 0).length 0); rw [hLl], rfl, rfl, trivial⟩ ⟨Nat.zero_le _, hB, by rw [show L 0 = [] from by rw [hL]; rfl]; exact Row.nil _ _ _ _, hw⟩ ?_
  clear hB hw h
  rintro ⟨⟨ao, c⟩, i⟩ w2 ⟨hi, hB, hO, hw⟩
  simp only at hi hO
  dsimp only
  have zw1 := hw.size
  have hLi := hLl i
  refine WC.seq (WC.region (?_))
  refine WL.lss? rfl rfl rfl (fun h39 => ?_) (fun h39 => ?_)
  ·
    refine WL.nil (WX.then_normal (WC.seq (WC.cond_true rfl (WC.skip (WX.then_normal (WC.seq (WC.block (?_))))))))
    refine WC.seq (WC.region (WL.move rfl rfl (WL.assign rfl rfl (WL.nil (WX.then_normal (WC.region (WL.move rfl rfl (?_))))))))
    refine WL.move rfl rfl (WL.move rfl rfl (?_))
    refine WL.add64 rfl rfl (by constructor <;> omega) rfl ?_
    refine WL.move rfl rfl (WL.nilCheck rfl rfl (WL.fieldAddr (fld_81_1) rfl rfl (WL.loadB Tryz.isAgg3 hB rfl rfl rfl (?_))))
    refine WL.rem64i rfl rfl (by constructor <;> omega) rfl ?_
    rw [show ((addr : Int) + (i : Int)) % (s.dn : Int) = (((addr + i) % s.dn : Nat) : Int) from by rw [Int.natCast_emod, Int.natCast_add]]
    refine WL.build (e := ei) [(((addr + i) % s.dn : Nat) : Int)] Tryz.underlying39 Tryz.sizeOf3 Tryz.zeroValue3 rfl rfl rfl (by simp [Value.cells] <;> rfl) (by decide) rfl ?_
    intro a_q50 w_q50 q50 l_q50 z_q50 k_q50
    have zs_k_q50 := k_q50.size
    replace hB := hB.pure k_q50
    replace hO := hO.pure k_q50
    replace hw := hw.pure k_q50
    refine WL.append (e := ei) info_3 rfl Tryz.underlying39 rfl rfl hO (q50.rsl.src Tryz.underlying39) (by (try simp only [List.length_append, List.length_cons, List.length_nil] at *); omega) (by intro b hb; first | (apply hS; omega) | ((try dsimp only); omega)) rfl ?_
    intro a_q51 c_q51 w_q51 q51 g_q51 n_q51
    have z_q51 := g_q51.chg.size
    have zs_g_q51_chg := g_q51.chg.size
    replace hB := hB.chg g_q51.chg (by intro h1; exfalso; have h4 := h1.2; (try dsimp only at *); omega)
    replace hw := hw.chg g_q51.chg (by intros; exfalso; (try dsimp only at *); omega)
    rw [← hLs] at q51 ⊢
    refine WL.assign rfl rfl (WL.nil (WX.block_normal (WX.then_normal (WC.region (WL.add64 rfl rfl (by omega) rfl (WL.move rfl rfl (WL.nil (?_))))))))
    exact WX.loop_next ((a_q51, c_q51), i + 1) ⟨rfl, rfl, rfl, rfl, rfl, trivial⟩ ⟨by show i + 1 ≤ m; omega, hB, q51, hw⟩ (by show m - (i + 1) < m - i; omega)
  ·
    refine WL.nil (WX.then_normal (WC.seq (WC.cond_false rfl (WC.exit (WX.then_exit (WX.then_exit (WX.block_here (?_))))))))
    refine WX.then_normal (WC.seq (WC.region (WL.move rfl rfl (?_))))
    have him : i = m := by omega
    subst him
    have hat := hO.at_
    refine WL.call eg_51 rfl rfl (sort_calls hO (by omega)) ?_
    rintro v w3 ⟨rfl, hS, k3⟩
    have hlen : (srt (L i)).length = (L i).length := srt_len _
    rw [← hlen]
    replace hB := hB.chg k3 (fun hx => by have := hat.eqb hx; have := hB.lt; have := hw.size; omega)
    replace hw := hw.chg k3 (fun x hx hm => by have := hat.eqb hm; omega)
    refine WL.nil (WX.then_normal (WC.seq (WC.region (WL.move rfl rfl (WL.assign rfl rfl (WL.assign rfl rfl (WL.nil (?_))))))))
    refine WX.then_normal (WC.ret (?_))
    refine WX.ret2 (.inl rfl) Tryz.results21 rfl rfl ?_
    have e : bdrv s addr size = srt (L i) := by
      rw [bdrv, drvA, hL, hmm, hcost]
    rw [e]
    exact ⟨_, rfl, ⟨ao, c, rfl, hS⟩, hw⟩
end Go.Proofs.YtggecdldnpildaaGreat
namespace Go.Proofs.YtggecdldnpildaaGreat
open Go.RowKit Go.HL
set_option maxRecDepth 100000

/-! will a set of drives do? -/
abbrev fnFit (g1 g2 g3 g4 g5 g6 : Nat) : Value := .func (.func 49) #[] #[ptr g1, ptr g2, ptr g3, ptr g4, ptr g5, ptr g6]
structure FE (N : Nat) (w : World) (g1 g2 g3 g4 g5 g6 : Nat) (ga : Option Addr) (gc : Nat) (G : List Int) (la : Option Addr) (lc : Nat) (l : List Stp) (size : Nat) (sum : ByteArray) : Prop where
  b1 : Blk w g1 39 [.slice ga G.length gc]
  b2 : Blk w g2 91 [.slice la l.length lc]
  b3 : Blk w g3 3 [vi size]
  b4 : Blk w g4 9 [.string sum]
  b5 : ∃ fa fn fc, Blk w g5 26 [.slice fa fn fc]
  b6 : ∃ fa fn fc, Blk w g6 39 [.slice fa fn fc]
  rG : RSl (· < N) w ei ga gc G
  rl : RSK (· < N) w 121 estp la lc l
  rI : SI (· < N) w 26 5 3 l
  ne : (g1 < g5 ∧ g2 < g5 ∧ g3 < g5 ∧ g4 < g5) ∧ g5 < g6 ∧ N ≤ g5
/-- what was found -/
def Got (N2 : Nat) (w : World) (g5 g6 sz : Nat) (B : List UInt8) (bad : List Int) : Prop := B.length = sz ∧ ∃ fa fc ba bc, Blk w g5 26 [.slice fa B.length fc] ∧ Row (fun x => N2 ≤ x) w 5 eb fa fc B ∧ Blk w g6 39 [.slice ba bad.length bc] ∧ Row (fun x => N2 ≤ x) w 3 ei ba bc bad
section
variable {N N2 g1 g2 g3 g4 g5 g6 gc lc size : Nat} {w w' : World} {ga la : Option Addr} {G : List Int} {l : List Stp} {sum : ByteArray} {M : Nat → Prop}
theorem FE.pure (h : FE N w g1 g2 g3 g4 g5 g6 ga gc G la lc l size sum) (k : Chg Nob w w') : FE N w' g1 g2 g3 g4 g5 g6 ga gc G la lc l size sum := by
  obtain ⟨b1, b2, b3, b4, ⟨x1, x2, x3, b5⟩, ⟨y1, y2, y3, b6⟩, rG, rl, rI, ne⟩ := h
  exact ⟨b1.pure k, b2.pure k, b3.pure k, b4.pure k, ⟨_, _, _, b5.pure k⟩, ⟨_, _, _, b6.pure k⟩, rG.pure k, rl.pure k, rI.pure k, ne⟩
theorem Got.pure {B : List UInt8} {bad : List Int} (h : Got N2 w g5 g6 size B bad) (k : Chg Nob w w') : Got N2 w' g5 g6 size B bad := by
  obtain ⟨hl, fa, fc, ba, bc, h1, h2, h3, h4⟩ := h
  exact ⟨hl, fa, fc, ba, bc, h1.pure k, h2.pure k, h3.pure k, h4.pure k⟩
end
noncomputable def fitB (G : List Int) (l : List Stp) (size : Nat) (sum : ByteArray) (set : List Int) : Bool := decide ((⟨(sumB ((datA (l.map Stp.abs) (srt (G ++ set))).take size)).toArray⟩ : ByteArray) = sum)
set_option maxHeartbeats 4000000 in
theorem fits_calls {S : Nat → Prop} {w : World} {N g1 g2 g3 g4 g5 g6 gc lc sc size : Nat} {ga la sa : Option Addr} {G set : List Int} {l : List Stp} {sum : ByteArray} (hE : FE N w g1 g2 g3 g4 g5 g6 ga gc G la lc l size sum) (hset : RSl S w ei sa sc set) (hG3 : G.length ≤ 100) (hs3 : set.length ≤ 100)
    (hok : ∀ s ∈ l, OkCol s.abs.1 s.abs.2 (srt (G ++ set))) (hl8 : l.length ≤ 8) (hsz : 1 ≤ size ∧ size ≤ 128 * kR l) (hk8 : kR l ≤ 100) (hs1 : size ≤ 1024) :
    Calls Tryz.prog 49 [.slice sa set.length sc, ptr g1, ptr g2, ptr g3, ptr g4, ptr g5, ptr g6].toArray w (Ret fun v w' => v = .bool (fitB G l size sum set) ∧ FE N w' g1 g2 g3 g4 g5 g6 ga gc G la lc l size sum ∧ (fitB G l size sum set = true → Got w.heap.size w' g5 g6 size ((datA (l.map Stp.abs) (srt (G ++ set))).take size) (srt (G ++ set))) ∧ Chg (fun x => x = g5 ∨ x = g6) w w') := by
  have hw := Chg.refl (fun x => x = g5 ∨ x = g6) w
  obtain ⟨b1, b2, b3, b4, ⟨x1, x2, x3, b5⟩, ⟨y1, y2, y3, b6⟩, rG, rl, rI, ne⟩ := hE
  have l5 := b5.lt
  have l6 := b6.lt
  replace hset := hset.old
  refine Calls.of_WC Tryz.func49 rfl Tryz.ntmps49 (by simp) ?_
  refine WC.seq (WC.region (WL.assign rfl rfl (WL.nil (WX.then_normal (WC.seq (WC.region (WL.loadB Tryz.isAgg39 b1 rfl rfl rfl (?_))))))))
  refine WL.move rfl rfl (?_)
  refine WL.build (e := erz) [⟨ga, gc, G⟩, ⟨sa, sc, set⟩] Tryz.underlying124 Tryz.sizeOf39 Tryz.zeroValue39 rfl rfl rfl (by simp [Value.cells] <;> rfl) (by decide) rfl ?_
  intro a_q14 w_q14 q14 l_q14 z_q14 k_q14
  replace b1 := b1.pure k_q14
  replace b2 := b2.pure k_q14
  replace b3 := b3.pure k_q14
  replace b4 := b4.pure k_q14
  replace b5 := b5.pure k_q14
  replace b6 := b6.pure k_q14
  replace rG := rG.pure k_q14
  replace rl := rl.pure k_q14
  replace rI := rI.pure k_q14
  replace hset := hset.pure k_q14
  replace hw := hw.pure k_q14
  refine WL.call eg_50 rfl rfl (zconcat_calls (S1 := fun _ => True) (r1 := ⟨ga, gc, G⟩) (r2 := ⟨sa, sc, set⟩) q14.rsl (rG.mono (fun _ _ => trivial)) (hset.mono (fun _ _ => trivial)) (by show G.length ≤ 10000; omega) (by show set.length ≤ 10000; omega)) ?_
  rintro v w2 ⟨⟨ab, cb, rfl, hb0⟩, k2⟩
  have zw1 := hw.size
  have zs2 := k2.size
  replace b1 := b1.pure k2
  replace b2 := b2.pure k2
  replace b3 := b3.pure k2
  replace b4 := b4.pure k2
  replace b5 := b5.pure k2
  replace b6 := b6.pure k2
  replace rG := rG.pure k2
  replace rl := rl.pure k2
  replace rI := rI.pure k2
  replace hw := hw.pure k2
  have hb1 : Row (fun x => w.heap.size ≤ x) w2 3 ei ab cb (G ++ set) := hb0.mono (fun x hx => by have h9 : _ ≤ x := hx; show w.heap.size ≤ x; omega)
  clear hb0
  refine WL.assign rfl rfl (WL.nil (WX.then_normal (WC.seq (WC.region (WL.move rfl rfl (?_))))))
  have hat := hb1.at_
  refine WL.call eg_51 rfl rfl (sort_calls hb1 (by show (G ++ set).length ≤ 100000; rw [List.length_append]; omega)) ?_
  rintro v w3 ⟨rfl, hb2, k3⟩
  have zw2 := hw.size
  have hM : ∀ x, x < w.heap.size → Eqb ab x → False := fun x h1 h2 => by have := hat.eqb h2; omega
  have lG : ∀ x, x < N → x < w.heap.size := fun x hx => by omega
  have e1 := b1.lt
  replace b1 := b1.chg k3 (fun h => hM _ (by omega) h)
  replace b2 := b2.chg k3 (fun h => hM _ (by omega) h)
  replace b3 := b3.chg k3 (fun h => hM _ (by omega) h)
  replace b4 := b4.chg k3 (fun h => hM _ (by omega) h)
  replace b5 := b5.chg k3 (fun h => hM _ (by omega) h)
  replace b6 := b6.chg k3 (fun h => hM _ (by omega) h)
  replace rG := rG.chg k3 (fun x _ h1 h2 => hM x (lG x h1) h2)
  replace rl := rl.chg k3 (fun x _ h1 _ h2 => hM x (lG x h1) h2)
  replace rI := rI.chg k3 (fun x _ h1 h2 => hM x (lG x h1) h2)
  replace hw := hw.chg k3 (fun x h1 h2 => (hM x h1 h2).elim)
  obtain ⟨bad, hbad⟩ : ∃ bad, bad = srt (G ++ set) := ⟨_, rfl⟩
  have hlen : (G ++ set).length = bad.length := by rw [hbad, srt_len]
  rw [hlen]
  rw [← hbad] at hb2 hok ⊢
  refine WL.nil (WX.then_normal (WC.seq (WC.region (WL.loadB Tryz.isAgg91 b2 rfl rfl rfl (WL.loadB Tryz.isAgg3 b3 rfl rfl rfl (WL.move rfl rfl (?_)))))))
  refine WL.call eg_52 rfl rfl (data_calls rl rI hb2.rsl hok hl8 size hsz hk8) ?_
  rintro v w4 ⟨⟨a4, c4, rfl, hB, hBl⟩, k4⟩
  have zw3 := hw.size
  replace b1 := b1.pure k4
  replace b2 := b2.pure k4
  replace b3 := b3.pure k4
  replace b4 := b4.pure k4
  replace b5 := b5.pure k4
  replace b6 := b6.pure k4
  replace rG := rG.pure k4
  replace rl := rl.pure k4
  replace rI := rI.pure k4
  replace hw := hw.pure k4
  replace hb2 := hb2.pure k4
  obtain ⟨B, eB⟩ : ∃ B, B = (datA (l.map Stp.abs) bad).take size := ⟨_, rfl⟩
  rw [← eB] at hB ⊢
  have hBs : B.length = size := by rw [eB, List.length_take]; omega
  have hfb : fitB G l size sum set = decide ((⟨(sumB B).toArray⟩ : ByteArray) = sum) := by rw [fitB, ← hbad, eB]
  have hB1 : Row (fun x => w.heap.size ≤ x) w4 5 eb a4 c4 B := hB.mono (fun x hx => by have h9 : _ ≤ x := hx; show w.heap.size ≤ x; omega)
  clear hB
  by_cases hfit : (⟨(sumB B).toArray⟩ : ByteArray) = sum
  ·
    refine WL.move rfl rfl (WL.extract rfl rfl rfl (WL.extract rfl rfl rfl (WL.assign rfl rfl (WL.assign rfl rfl (WL.nil (WX.then_normal (WC.seq (?_))))))))
    refine WC.seq (?_)
    refine WC.draw (Nob) [0, 1, 2, 3, 4, 5, 6, 7] [] mixed rfl rfl (fun wd_1 kd_1 zd_1 => ?_)
    replace b1 := b1.pure kd_1
    replace b2 := b2.pure kd_1
    replace b3 := b3.pure kd_1
    replace b4 := b4.pure kd_1
    replace b5 := b5.pure kd_1
    replace b6 := b6.pure kd_1
    replace rG := rG.pure kd_1
    replace rl := rl.pure kd_1
    replace rI := rI.pure kd_1
    replace hw := hw.pure kd_1
    replace hb2 := hb2.pure kd_1
    replace hB1 := hB1.pure kd_1
    apply DQ.step (E' := [(11, _)])
    case ho => rfl
    case hs => exact ⟨rfl, trivial⟩
    case hk => rfl
    case h1 =>
      intro wq_2 kq_2
      refine WL.move rfl rfl (?_)
      refine WL.nil ?_
      exact WX.one ⟨rfl, by exact Chg.refl _ _⟩
    apply DQ.step (E' := [(25, _)])
    case ho => rfl
    case hs => exact ⟨rfl, trivial⟩
    case hk => rfl
    case h1 =>
      intro wq_3 kq_3
      refine WL.not rfl rfl ?_
      refine WL.nil ?_
      exact WX.one ⟨rfl, by exact Chg.refl _ _⟩
    apply DQ.step (E' := [(26, _)])
    case ho => rfl
    case hs => exact ⟨rfl, trivial⟩
    case hk => rfl
    case h1 =>
      intro wq_4 kq_4
      refine WL.move rfl rfl (?_)
      refine WL.nil ?_
      exact WX.one ⟨rfl, by exact Chg.refl _ _⟩
    apply DQ.step (E' := [(10, _), (27, _)])
    case ho => rfl
    case hs => exact ⟨rfl, rfl, trivial⟩
    case hk => rfl
    case h1 =>
      intro wq_5 kq_5
      refine WL.want rfl rfl rfl (WL.move rfl rfl (?_))
      refine WL.nil ?_
      exact WX.one ⟨rfl, by exact Chg.refl _ _⟩
    apply DQ.step (E' := [(28, _), (27, _)])
    case ho => rfl
    case hs => exact ⟨rfl, rfl, trivial⟩
    case hk => rfl
    case h1 =>
      intro wq_6 kq_6
      replace b1 := b1.pure kq_6
      replace b2 := b2.pure kq_6
      replace b3 := b3.pure kq_6
      replace b4 := b4.pure kq_6
      replace b5 := b5.pure kq_6
      replace b6 := b6.pure kq_6
      replace rG := rG.pure kq_6
      replace rl := rl.pure kq_6
      replace rI := rI.pure kq_6
      replace hw := hw.pure kq_6
      replace hb2 := hb2.pure kq_6
      replace hB1 := hB1.pure kq_6
      refine WL.want rfl rfl rfl (?_)
      refine WL.call eg_12 rfl rfl (sum_calls hB1.rsl (by omega)) ?_
      rintro v w5 ⟨rfl, k5⟩
      replace b1 := b1.pure k5
      replace b2 := b2.pure k5
      replace b3 := b3.pure k5
      replace b4 := b4.pure k5
      replace b5 := b5.pure k5
      replace b6 := b6.pure k5
      replace rG := rG.pure k5
      replace rl := rl.pure k5
      replace rI := rI.pure k5
      replace hw := hw.pure k5
      replace hb2 := hb2.pure k5
      replace hB1 := hB1.pure k5
      refine WL.nil ?_
      exact WX.one ⟨rfl, by assumption⟩
    apply DQ.step (E' := [(4, _), (27, _)])
    case ho => rfl
    case hs => exact ⟨rfl, rfl, trivial⟩
    case hk => rfl
    case h1 =>
      intro wq_7 kq_7
      replace b1 := b1.pure kq_7
      replace b2 := b2.pure kq_7
      replace b3 := b3.pure kq_7
      replace b4 := b4.pure kq_7
      replace b5 := b5.pure kq_7
      replace b6 := b6.pure kq_7
      replace rG := rG.pure kq_7
      replace rl := rl.pure kq_7
      replace rI := rI.pure kq_7
      replace hw := hw.pure kq_7
      replace hb2 := hb2.pure kq_7
      replace hB1 := hB1.pure kq_7
      refine WL.want rfl rfl rfl (WL.loadB Tryz.isAgg9 b4 rfl rfl rfl (?_))
      refine WL.nil ?_
      exact WX.one ⟨rfl, by exact Chg.refl _ _⟩
    apply DQ.step (E' := [(29, _), (30, _), (27, _)])
    case ho => rfl
    case hs => exact ⟨rfl, rfl, rfl, trivial⟩
    case hk => rfl
    case h1 =>
      intro wq_8 kq_8
      refine WL.want rfl rfl rfl (?_)
      refine WL.sneqF rfl rfl rfl (hfit) ?_
      refine WL.nil ?_
      exact WX.one ⟨rfl, by exact Chg.refl _ _⟩
    apply DQ.step (E' := [(27, _), (31, _)])
    case ho => rfl
    case hs => exact ⟨rfl, rfl, trivial⟩
    case hk => rfl
    case h1 =>
      intro wq_9 kq_9
      refine WL.pickF rfl rfl rfl (?_)
      refine WL.nil ?_
      exact WX.one ⟨rfl, by exact Chg.refl _ _⟩
    refine DQ.done (fun _ => ?_)
    refine DL.done (fun we_10 ke_10 => ?_)
    replace b1 := b1.pure ke_10
    replace b2 := b2.pure ke_10
    replace b3 := b3.pure ke_10
    replace b4 := b4.pure ke_10
    replace b5 := b5.pure ke_10
    replace b6 := b6.pure ke_10
    replace rG := rG.pure ke_10
    replace rl := rl.pure ke_10
    replace rI := rI.pure ke_10
    replace hw := hw.pure ke_10
    replace hb2 := hb2.pure ke_10
    replace hB1 := hB1.pure ke_10
    refine WX.then_normal (WC.cond_false rfl (WC.skip (WX.then_normal (WC.seq (WC.region (WL.move rfl rfl (WL.move rfl rfl (?_))))))))
    refine WL.store Tryz.sizeOf26 b5 rfl rfl rfl rfl ?_
    intro w_11 hs_11 hn_11 k_11
    replace b1 := b1.chg k_11 (by intro h1; have h2 : _ = _ := h1; omega)
    replace b2 := b2.chg k_11 (by intro h1; have h2 : _ = _ := h1; omega)
    replace b3 := b3.chg k_11 (by intro h1; have h2 : _ = _ := h1; omega)
    replace b4 := b4.chg k_11 (by intro h1; have h2 : _ = _ := h1; omega)
    replace b6 := b6.chg k_11 (by intro h1; have h2 : _ = _ := h1; omega)
    replace rG := rG.chg k_11 (by intro b h1 h2 h3; have h4 : b < N := h2; have h5 : b = _ := h3; omega)
    replace rl := rl.chg k_11 (by intro b h1 h2 h3 h4; have h5 : b < N := h2; have h6 : b = _ := h4; omega)
    replace rI := rI.chg k_11 (by intro b h1 h2 h3; have h4 : b < N := h2; have h5 : b = _ := h3; omega)
    replace hw := hw.chg k_11 (by intro x h1 h2; exact .inl h2)
    replace hb2 := hb2.chg k_11 (by intro b h1 h2 h3; have h4 : w.heap.size ≤ b := h2; have h5 : b = _ := h3; omega)
    replace hB1 := hB1.chg k_11 (by intro b h1 h2 h3; have h4 : w.heap.size ≤ b := h2; have h5 : b = _ := h3; omega)
    replace b5 := hn_11
    refine WL.store Tryz.sizeOf39 b6 rfl rfl rfl rfl ?_
    intro w_12 hs_12 hn_12 k_12
    replace b1 := b1.chg k_12 (by intro h1; have h2 : _ = _ := h1; omega)
    replace b2 := b2.chg k_12 (by intro h1; have h2 : _ = _ := h1; omega)
    replace b3 := b3.chg k_12 (by intro h1; have h2 : _ = _ := h1; omega)
    replace b4 := b4.chg k_12 (by intro h1; have h2 : _ = _ := h1; omega)
    replace b5 := b5.chg k_12 (by intro h1; have h2 : _ = _ := h1; omega)
    replace rG := rG.chg k_12 (by intro b h1 h2 h3; have h4 : b < N := h2; have h5 : b = _ := h3; omega)
    replace rl := rl.chg k_12 (by intro b h1 h2 h3 h4; have h5 : b < N := h2; have h6 : b = _ := h4; omega)
    replace rI := rI.chg k_12 (by intro b h1 h2 h3; have h4 : b < N := h2; have h5 : b = _ := h3; omega)
    replace hw := hw.chg k_12 (by intro x h1 h2; exact .inr h2)
    replace hb2 := hb2.chg k_12 (by intro b h1 h2 h3; have h4 : w.heap.size ≤ b := h2; have h5 : b = _ := h3; omega)
    replace hB1 := hB1.chg k_12 (by intro b h1 h2 h3; have h4 : w.heap.size ≤ b := h2; have h5 : b = _ := h3; omega)
    replace b6 := hn_12
    refine WL.nil (WX.then_normal (WC.seq (WC.region (WL.assign rfl rfl (WL.nil (WX.then_normal (WC.ret (?_))))))))
    refine WX.ret1 (.inl rfl) Tryz.results49 rfl ?_
    have hff : fitB G l size sum set = true := by rw [hfb, decide_eq_true hfit]
    refine ⟨_, rfl, by rw [hff], ⟨b1, b2, b3, b4, ⟨_, _, _, b5⟩, ⟨_, _, _, b6⟩, rG, rl, rI, ne⟩, fun _ => ⟨hBs, a4, c4, ab, cb, b5, hB1, b6, hb2⟩, hw⟩
  ·
    refine WL.move rfl rfl (WL.extract rfl rfl rfl (WL.extract rfl rfl rfl (WL.assign rfl rfl (WL.assign rfl rfl (WL.nil (WX.then_normal (WC.seq (?_))))))))
    refine WC.seq (?_)
    refine WC.draw (Nob) [0, 1, 2, 3, 4, 5, 6, 7] [] mixed rfl rfl (fun wd_1 kd_1 zd_1 => ?_)
    replace b1 := b1.pure kd_1
    replace b2 := b2.pure kd_1
    replace b3 := b3.pure kd_1
    replace b4 := b4.pure kd_1
    replace b5 := b5.pure kd_1
    replace b6 := b6.pure kd_1
    replace rG := rG.pure kd_1
    replace rl := rl.pure kd_1
    replace rI := rI.pure kd_1
    replace hw := hw.pure kd_1
    replace hb2 := hb2.pure kd_1
    replace hB1 := hB1.pure kd_1
    apply DQ.step (E' := [(11, _)])
    case ho => rfl
    case hs => exact ⟨rfl, trivial⟩
    case hk => rfl
    case h1 =>
      intro wq_2 kq_2
      refine WL.move rfl rfl (?_)
      refine WL.nil ?_
      exact WX.one ⟨rfl, by exact Chg.refl _ _⟩
    apply DQ.step (E' := [(25, _)])
    case ho => rfl
    case hs => exact ⟨rfl, trivial⟩
    case hk => rfl
    case h1 =>
      intro wq_3 kq_3
      refine WL.not rfl rfl ?_
      refine WL.nil ?_
      exact WX.one ⟨rfl, by exact Chg.refl _ _⟩
    apply DQ.step (E' := [(26, _)])
    case ho => rfl
    case hs => exact ⟨rfl, trivial⟩
    case hk => rfl
    case h1 =>
      intro wq_4 kq_4
      refine WL.move rfl rfl (?_)
      refine WL.nil ?_
      exact WX.one ⟨rfl, by exact Chg.refl _ _⟩
    apply DQ.step (E' := [(10, _), (27, _)])
    case ho => rfl
    case hs => exact ⟨rfl, rfl, trivial⟩
    case hk => rfl
    case h1 =>
      intro wq_5 kq_5
      refine WL.want rfl rfl rfl (WL.move rfl rfl (?_))
      refine WL.nil ?_
      exact WX.one ⟨rfl, by exact Chg.refl _ _⟩
    apply DQ.step (E' := [(28, _), (27, _)])
    case ho => rfl
    case hs => exact ⟨rfl, rfl, trivial⟩
    case hk => rfl
    case h1 =>
      intro wq_6 kq_6
      replace b1 := b1.pure kq_6
      replace b2 := b2.pure kq_6
      replace b3 := b3.pure kq_6
      replace b4 := b4.pure kq_6
      replace b5 := b5.pure kq_6
      replace b6 := b6.pure kq_6
      replace rG := rG.pure kq_6
      replace rl := rl.pure kq_6
      replace rI := rI.pure kq_6
      replace hw := hw.pure kq_6
      replace hb2 := hb2.pure kq_6
      replace hB1 := hB1.pure kq_6
      refine WL.want rfl rfl rfl (?_)
      refine WL.call eg_12 rfl rfl (sum_calls hB1.rsl (by omega)) ?_
      rintro v w5 ⟨rfl, k5⟩
      replace b1 := b1.pure k5
      replace b2 := b2.pure k5
      replace b3 := b3.pure k5
      replace b4 := b4.pure k5
      replace b5 := b5.pure k5
      replace b6 := b6.pure k5
      replace rG := rG.pure k5
      replace rl := rl.pure k5
      replace rI := rI.pure k5
      replace hw := hw.pure k5
      replace hb2 := hb2.pure k5
      replace hB1 := hB1.pure k5
      refine WL.nil ?_
      exact WX.one ⟨rfl, by assumption⟩
    apply DQ.step (E' := [(4, _), (27, _)])
    case ho => rfl
    case hs => exact ⟨rfl, rfl, trivial⟩
    case hk => rfl
    case h1 =>
      intro wq_7 kq_7
      replace b1 := b1.pure kq_7
      replace b2 := b2.pure kq_7
      replace b3 := b3.pure kq_7
      replace b4 := b4.pure kq_7
      replace b5 := b5.pure kq_7
      replace b6 := b6.pure kq_7
      replace rG := rG.pure kq_7
      replace rl := rl.pure kq_7
      replace rI := rI.pure kq_7
      replace hw := hw.pure kq_7
      replace hb2 := hb2.pure kq_7
      replace hB1 := hB1.pure kq_7
      refine WL.want rfl rfl rfl (WL.loadB Tryz.isAgg9 b4 rfl rfl rfl (?_))
      refine WL.nil ?_
      exact WX.one ⟨rfl, by exact Chg.refl _ _⟩
    apply DQ.step (E' := [(29, _), (30, _), (27, _)])
    case ho => rfl
    case hs => exact ⟨rfl, rfl, rfl, trivial⟩
    case hk => rfl
    case h1 =>
      intro wq_8 kq_8
      refine WL.want rfl rfl rfl (?_)
      refine WL.sneqT rfl rfl rfl (hfit) ?_
      refine WL.nil ?_
      exact WX.one ⟨rfl, by exact Chg.refl _ _⟩
    apply DQ.step (E' := [(27, _), (31, _)])
    case ho => rfl
    case hs => exact ⟨rfl, rfl, trivial⟩
    case hk => rfl
    case h1 =>
      intro wq_9 kq_9
      refine WL.pickF rfl rfl rfl (?_)
      refine WL.nil ?_
      exact WX.one ⟨rfl, by exact Chg.refl _ _⟩
    refine DQ.done (fun _ => ?_)
    refine DL.done (fun we_10 ke_10 => ?_)
    replace b1 := b1.pure ke_10
    replace b2 := b2.pure ke_10
    replace b3 := b3.pure ke_10
    replace b4 := b4.pure ke_10
    replace b5 := b5.pure ke_10
    replace b6 := b6.pure ke_10
    replace rG := rG.pure ke_10
    replace rl := rl.pure ke_10
    replace rI := rI.pure ke_10
    replace hw := hw.pure ke_10
    replace hb2 := hb2.pure ke_10
    replace hB1 := hB1.pure ke_10
    refine WX.then_normal (WC.cond_true rfl (WC.seq (WC.region (WL.assign rfl rfl (WL.nil (WX.then_normal (WC.ret (?_))))))))
    refine WX.then_ret (?_)
    refine WX.ret1 (.inl rfl) Tryz.results49 rfl ?_
    have hff : fitB G l size sum set = false := by rw [hfb, decide_eq_false hfit]
    exact ⟨_, rfl, by rw [hff], ⟨b1, b2, b3, b4, ⟨_, _, _, b5⟩, ⟨_, _, _, b6⟩, rG, rl, rI, ne⟩, (fun h => by rw [hff] at h; cases h), hw⟩
end Go.Proofs.YtggecdldnpildaaGreat
namespace Go.Proofs.YtggecdldnpildaaGreat
open Go.RowKit Go.HL
set_option maxRecDepth 100000

/-! sets of drives are tried -/
theorem Got.up {N2 N3 g5 g6 sz : Nat} {w : World} {B : List UInt8} {bad : List Int} (h : Got N3 w g5 g6 sz B bad) (hn : N2 ≤ N3) : Got N2 w g5 g6 sz B bad := by
  obtain ⟨hl, fa, fc, ba, bc, h1, h2, h3, h4⟩ := h
  exact ⟨hl, fa, fc, ba, bc, h1, h2.mono (fun x hx => Nat.le_trans hn hx), h3, h4.mono (fun x hx => Nat.le_trans hn hx)⟩
section
variable {N g1 g2 g3 g4 g5 g6 gc lc size : Nat} {w w' : World} {ga la : Option Addr} {G : List Int} {l : List Stp} {sum : ByteArray} {M : Nat → Prop}
theorem FE.l6 (h : FE N w g1 g2 g3 g4 g5 g6 ga gc G la lc l size sum) : g6 < w.heap.size := by
  obtain ⟨y1, y2, y3, h6⟩ := h.b6
  exact h6.lt
theorem FE.hi (h : FE N w g1 g2 g3 g4 g5 g6 ga gc G la lc l size sum) (k : Chg M w w') (hd : ∀ b, b ≤ g6 → M b → False) : FE N w' g1 g2 g3 g4 g5 g6 ga gc G la lc l size sum := by
  obtain ⟨b1, b2, b3, b4, ⟨x1, x2, x3, b5⟩, ⟨y1, y2, y3, b6⟩, rG, rl, rI, ne⟩ := h
  exact ⟨b1.chg k (hd _ (by omega)), b2.chg k (hd _ (by omega)), b3.chg k (hd _ (by omega)), b4.chg k (hd _ (by omega)), ⟨_, _, _, b5.chg k (hd _ (by omega))⟩, ⟨_, _, _, b6.chg k (hd _ (by omega))⟩, rG.chg k (fun b _ h1 h2 => hd b (by have h3 : b < N := h1; omega) h2), rl.chg k (fun b _ h1 _ h2 => hd b (by have h3 : b < N := h1; omega) h2), rI.chg k (fun b _ h1 h2 => hd b (by have h3 : b < N := h1; omega) h2), ne⟩
end
noncomputable abbrev bytB (G : List Int) (l : List Stp) (size : Nat) (set : List Int) : List UInt8 := (datA (l.map Stp.abs) (srt (G ++ set))).take size
def GotF (N2 : Nat) (w : World) (g5 g6 : Nat) (G : List Int) (l : List Stp) (size : Nat) (cs : Option (List Int)) : Prop := ∀ out, cs = some out → Got N2 w g5 g6 size (bytB G l size out) (srt (G ++ out))
theorem GotF.pure {N2 g5 g6 size : Nat} {w w' : World} {G : List Int} {l : List Stp} {cs : Option (List Int)} (h : GotF N2 w g5 g6 G l size cs) (k : Chg Nob w w') : GotF N2 w' g5 g6 G l size cs := fun out ho => (h out ho).pure k
set_option maxHeartbeats 8000000 in
theorem try_calls {N g1 g2 g3 g4 g5 g6 gc lc size : Nat} {ga la : Option Addr} {G : List Int} {l : List Stp} {sum : ByteArray} (hG3 : G.length ≤ 90) (hl8 : l.length ≤ 8) (hsz : 1 ≤ size ∧ size ≤ 128 * kR l) (hk8 : kR l ≤ 100) (hs1 : size ≤ 1024) :
    ∀ (n : Nat) {w : World} {ra sa : Option Addr} {rc sc : Nat} {rest set : List Int}, FE N w g1 g2 g3 g4 g5 g6 ga gc G la lc l size sum → RSl (· < N) w ei ra rc rest → RSl (fun x => x ≠ g5 ∧ x ≠ g6) w ei sa sc set → rest.length ≤ 100 → set.length + n ≤ 90 →
      (∀ out : List Int, out.length = set.length + n → ∀ s ∈ l, OkCol s.abs.1 s.abs.2 (srt (G ++ out))) →
      Calls Tryz.prog 53 [.slice ra rest.length rc, vi (n : Nat), .slice sa set.length sc, fnFit g1 g2 g3 g4 g5 g6].toArray w (Ret fun v w' => v = .bool ((combos rest n set).find? (fitB G l size sum)).isSome ∧ FE N w' g1 g2 g3 g4 g5 g6 ga gc G la lc l size sum ∧ (∀ out, (combos rest n set).find? (fitB G l size sum) = some out → Got w.heap.size w' g5 g6 size (bytB G l size out) (srt (G ++ out))) ∧ Chg (fun x => x = g5 ∨ x = g6) w w') := by
  intro n
  induction n with
  | zero =>
    intro w ra sa rc sc rest set hE hrest hset hrl hsl hok
    have hw := Chg.refl (fun x => x = g5 ∨ x = g6) w
    refine Calls.of_WC Tryz.func53 rfl Tryz.ntmps53 (by simp) ?_
    refine WC.seq (WC.region (WL.assign rfl rfl (WL.nil (WX.then_normal (WC.seq (WC.seq (WC.region (?_))))))))
    refine WL.move rfl rfl (?_)
    refine WL.eqlT rfl rfl rfl (by rfl) ?_
    refine WL.nil (WX.then_normal (WC.cond_true rfl (WC.seq (WC.region (WL.move rfl rfl (WL.move rfl rfl (?_)))))))
    refine WL.callv eg_49 rfl rfl rfl (fits_calls hE hset (by omega) (by omega) (hok set rfl) hl8 hsz hk8 hs1) ?_
    rintro v w2 ⟨rfl, hE2, hgot, k2⟩
    refine WL.assign rfl rfl (WL.nil (WX.then_normal (WC.ret (WX.then_ret (?_)))))
    refine WX.ret1 (.inl rfl) Tryz.results53 rfl ?_
    rw [combos_zero]
    rcases hf : fitB G l size sum set with _ | _
    ·
      exact ⟨_, rfl, by rw [List.find?_cons_of_neg (by simp [hf])]; rfl, hE2, (fun out ho => by rw [List.find?_cons_of_neg (by simp [hf])] at ho; cases ho), k2⟩
    ·
      exact ⟨_, rfl, by rw [List.find?_cons_of_pos (by simp [hf])]; rfl, hE2, (fun out ho => by rw [List.find?_cons_of_pos (by simp [hf])] at ho; injection ho with ho; subst ho; exact hgot hf), k2⟩
  | succ n ih =>
    intro w ra sa rc sc rest set hE hrest hset hrl hsl hok
    have hw := Chg.refl (fun x => x = g5 ∨ x = g6) w
    have hne := hE.ne
    refine Calls.of_WC Tryz.func53 rfl Tryz.ntmps53 (by simp) ?_
    refine WC.seq (WC.region (WL.assign rfl rfl (WL.nil (WX.then_normal (WC.seq (WC.seq (WC.region (?_))))))))
    refine WL.move rfl rfl (?_)
    refine WL.eqlF rfl rfl rfl (by omega) ?_
    refine WL.nil (WX.then_normal (WC.cond_false rfl (WC.skip (WX.then_normal (WC.seq (WC.seq (WC.region (?_))))))))
    refine WL.move rfl rfl (WL.len Tryz.underlying39 rfl rfl (WL.move rfl rfl (WL.nil (WX.then_normal (WC.block (?_))))))
    refine WC.loop (σ := Nat) (fun i => [(0, .slice ra rest.length rc), (1, vi ((n + 1 : Nat) : Int)), (2, .slice sa set.length sc), (3, fnFit g1 g2 g3 g4 g5 g6), (16, .slice ra rest.length rc), (17, vi rest.length), (18, vi (i : Int))])
      (fun i w' => i ≤ rest.length ∧ FE N w' g1 g2 g3 g4 g5 g6 ga gc G la lc l size sum ∧ RSl (· < N) w' ei ra rc rest ∧ RSl (fun x => x ≠ g5 ∧ x ≠ g6) w' ei sa sc set ∧ (combos rest (n + 1) set).find? (fitB G l size sum) = (combos (rest.drop i) (n + 1) set).find? (fitB G l size sum) ∧ Chg (fun x => x = g5 ∨ x = g6) w w') (fun i => rest.length - i) 0 ⟨rfl, rfl, rfl, rfl, rfl, rfl, rfl, trivial⟩ ⟨Nat.zero_le _, hE, hrest, hset, rfl, hw⟩ ?_
    clear hE hrest hset hw
    rintro i w1 ⟨hi, hE, hrest, hset, hco, hw⟩
    have zw1 := hw.size
    refine WC.seq (WC.region (?_))
    refine WL.lss? rfl rfl rfl (fun h19 => ?_) (fun h19 => ?_)
    ·
      refine WL.nil (WX.then_normal (WC.seq (WC.cond_true rfl (WC.skip (WX.then_normal (WC.seq (WC.block (?_))))))))
      refine WC.seq (WC.region (WL.move rfl rfl (?_)))
      obtain ⟨d, hd⟩ : ∃ d, rest[i]? = some d := ⟨_, List.getElem?_eq_getElem (by omega)⟩
      refine WL.indexT Tryz.underlying39 Tryz.sizeOf3 hrest rfl rfl ⟨hd, rfl⟩ rfl ?_
      intro b_1 o_1 hc_1
      refine WL.load Tryz.isAgg3 rfl (hc_1 0 _ rfl) rfl (WL.assign rfl rfl (WL.assign rfl rfl (WL.nil (WX.then_normal (WC.seq (?_))))))
      have hcut := hrest.cut (i + 1) rest.length ⟨by omega, Nat.le_refl _⟩
      rw [List.take_length] at hcut
      replace hset := hset.lt
      have hz := Chg.refl Nob w1
      refine WC.drawM ((fun x => x = g5 ∨ x = g6)) [0, 1, 2, 3, 4, 5, 6, 8, 11] [7, 9, 10, 12] mixed rfl rfl (fun wd_2 kd_2 zd_2 => ?_)
      replace hE := hE.pure kd_2
      replace hrest := hrest.pure kd_2
      replace hset := hset.pure kd_2
      replace hw := hw.pure kd_2
      replace hcut := hcut.pure kd_2
      replace hz := hz.pure kd_2
      apply DQT.step (E' := [(0, _)])
      case ho => rfl
      case hs => exact ⟨rfl, trivial⟩
      case hk => rfl
      case h1 =>
        intro wq_4 kq_4
        refine WL.move rfl rfl (?_)
        refine WL.nil ?_
        exact WX.one ⟨rfl, by exact Chg.refl _ _⟩
      apply DQT.step (E' := [(9, _)])
      case ho => rfl
      case hs => exact ⟨rfl, trivial⟩
      case hk => rfl
      case h1 =>
        intro wq_5 kq_5
        refine WL.move rfl rfl (?_)
        refine WL.nil ?_
        exact WX.one ⟨rfl, by exact Chg.refl _ _⟩
      apply DQT.step (E' := [(24, _)])
      case ho => rfl
      case hs => exact ⟨rfl, trivial⟩
      case hk => rfl
      case h1 =>
        intro wq_6 kq_6
        refine WL.add64 rfl rfl (by constructor <;> omega) rfl ?_
        refine WL.nil ?_
        exact WX.one ⟨rfl, by exact Chg.refl _ _⟩
      apply DQT.step (E' := [(23, _), (25, _)])
      case ho => rfl
      case hs => exact ⟨rfl, rfl, trivial⟩
      case hk => rfl
      case h1 =>
        intro wq_7 kq_7
        replace hrest := hrest.chg kq_7 (by intro b h1 h2 h3; have h4 : b < N := h2; rcases h3 with h5 | h5 <;> omega)
        refine WL.sliceC (l := i + 1) (h := rest.length) (j := .i64) Tryz.underlying39 Tryz.sizeOf3 hrest rfl (.inl rfl) (.inr ⟨rfl, rfl⟩) (by constructor <;> omega) rfl ?_
        rw [List.take_length]
        refine WL.nil ?_
        exact WX.one ⟨rfl, by exact Chg.refl _ _⟩
      apply DQT.step (E' := [(1, _)])
      case ho => rfl
      case hs => exact ⟨rfl, trivial⟩
      case hk => rfl
      case h1 =>
        intro wq_8 kq_8
        refine WL.move rfl rfl (?_)
        refine WL.nil ?_
        exact WX.one ⟨rfl, by exact Chg.refl _ _⟩
      apply DQT.step (E' := [(27, _)])
      case ho => rfl
      case hs => exact ⟨rfl, trivial⟩
      case hk => rfl
      case h1 =>
        intro wq_9 kq_9
        refine WL.sub64 rfl rfl (by constructor <;> omega) rfl ?_
        rw [show ((n + 1 : Nat) : Int) - 1 = (n : Int) from by omega]
        refine WL.nil ?_
        exact WX.one ⟨rfl, by exact Chg.refl _ _⟩
      apply DQT.step (E' := [(2, _)])
      case ho => rfl
      case hs => exact ⟨rfl, trivial⟩
      case hk => rfl
      case h1 =>
        intro wq_10 kq_10
        refine WL.move rfl rfl (?_)
        refine WL.nil ?_
        exact WX.one ⟨rfl, by exact Chg.refl _ _⟩
      apply DQT.step (E' := [(10, _)])
      case ho => rfl
      case hs => exact ⟨rfl, trivial⟩
      case hk => rfl
      case h1 =>
        intro wq_11 kq_11
        refine WL.move rfl rfl (?_)
        refine WL.nil ?_
        exact WX.one ⟨rfl, by exact Chg.refl _ _⟩
      apply DQT.step (E' := [(3, _)])
      case ho => rfl
      case hs => exact ⟨rfl, trivial⟩
      case hk => rfl
      case h1 =>
        intro wq_12 kq_12
        refine WL.move rfl rfl (?_)
        refine WL.nil ?_
        exact WX.one ⟨rfl, by exact Chg.refl _ _⟩
      refine DQT.done (fun hd_3 => ?_)
      refine ⟨?_, ?_, trivial, trivial, trivial⟩
      refine DT.step [(29, _)] rfl ⟨rfl, trivial⟩ rfl (fun wq_13 kq_13 => ?_)
      replace hE := hE.pure kq_13
      replace hrest := hrest.pure kq_13
      replace hset := hset.pure kq_13
      replace hw := hw.pure kq_13
      replace hcut := hcut.pure kq_13
      replace hz := hz.pure kq_13
      replace hd_3 := hd_3.pure kq_13
      have l6c := hE.l6
      have z30 := hz.size
      refine WL.call eg_75 rfl rfl (zclone_calls hset (by omega)) ?_
      rintro v w30 ⟨⟨a30, c30, rfl, h30'⟩, k30⟩
      replace hE := hE.pure k30
      replace hrest := hrest.pure k30
      replace hset := hset.pure k30
      replace hw := hw.pure k30
      replace hcut := hcut.pure k30
      replace hz := hz.pure k30
      replace hd_3 := hd_3.pure k30
      have h30 : Row (fun x => g6 < x ∧ w1.heap.size ≤ x) w30 3 ei a30 c30 set := h30'.mono (fun x hx => by have h9 : _ ≤ x := hx; exact ⟨by omega, by omega⟩)
      clear h30'
      refine WL.nil (WX.one ⟨hd_3, ?_⟩)
      refine ⟨?_, trivial, trivial, trivial⟩
      refine DT.step [(31, _)] rfl ⟨rfl, trivial⟩ rfl (fun wq_14 kq_14 => ?_)
      replace hE := hE.pure kq_14
      replace hrest := hrest.pure kq_14
      replace hset := hset.pure kq_14
      replace hw := hw.pure kq_14
      replace hcut := hcut.pure kq_14
      replace hz := hz.pure kq_14
      replace hd_3 := hd_3.pure kq_14
      replace h30 := h30.pure kq_14
      refine WL.build (e := ei) [d] Tryz.underlying39 Tryz.sizeOf3 Tryz.zeroValue3 rfl rfl rfl (by simp [Value.cells] <;> rfl) (by decide) rfl ?_
      intro a_q32 w_q32 q32 l_q32 z_q32 k_q32
      replace hE := hE.pure k_q32
      replace hrest := hrest.pure k_q32
      replace hset := hset.pure k_q32
      replace hw := hw.pure k_q32
      replace hcut := hcut.pure k_q32
      replace hz := hz.pure k_q32
      replace hd_3 := hd_3.pure k_q32
      replace h30 := h30.pure k_q32
      refine WL.nil (WX.one ⟨hd_3, ?_⟩)
      refine ⟨?_, trivial, trivial⟩
      refine DT.step [(30, _), (32, _)] rfl ⟨rfl, rfl, trivial⟩ rfl (fun wq_15 kq_15 => ?_)
      replace hE := hE.pure kq_15
      replace hrest := hrest.pure kq_15
      replace hset := hset.pure kq_15
      replace hw := hw.pure kq_15
      replace hcut := hcut.pure kq_15
      replace hz := hz.pure kq_15
      replace hd_3 := hd_3.pure kq_15
      replace h30 := h30.pure kq_15
      replace q32 := q32.pure kq_15
      have l6c := hE.l6
      have z33 := hz.size
      refine WL.append (e := ei) info_3 rfl Tryz.underlying39 rfl rfl h30 (q32.rsl.src Tryz.underlying39) (by constructor <;> (simp only [List.length_cons, List.length_nil]; omega)) (fun b hb => by have h9 : _ ≤ b := hb; exact ⟨by omega, by omega⟩) rfl ?_
      intro a33 c33 w33 h33 g33 n33
      replace hE := hE.hi g33.chg (fun b h1 h2 => by have := h2.2.1; omega)
      replace hrest := hrest.chg g33.chg (fun b _ h1 h2 => by have := h2.2.1; have h3 : b < N := h1; omega)
      replace hcut := hcut.chg g33.chg (fun b _ h1 h2 => by have := h2.2.1; have h3 : b < N := h1; omega)
      replace hset := hset.chg g33.chg (fun b _ h1 h2 => by have := h2.2.2; have := h1.2; omega)
      replace hw := hw.chg g33.chg (fun b h1 h2 => by have := h2.2.2; omega)
      replace hd_3 := hd_3.chg g33.chg (by intro x h1 h2; exfalso; have h3 := h2.2.2; omega)
      refine WL.nil (WX.one ⟨hd_3, ?_⟩)
      refine ⟨?_, trivial⟩
      refine DT.step [(26, _), (28, _), (33, _), (34, _)] rfl ⟨rfl, rfl, rfl, rfl, trivial⟩ rfl (fun wq_16 kq_16 => ?_)
      replace hE := hE.pure kq_16
      replace hrest := hrest.pure kq_16
      replace hset := hset.pure kq_16
      replace hw := hw.pure kq_16
      replace hcut := hcut.pure kq_16
      replace hd_3 := hd_3.pure kq_16
      replace h33 := h33.pure kq_16
      have zb := hw.size
      refine WL.call eg_53 rfl rfl (ih hE hcut (h33.rsl.mono (S' := fun x => x ≠ g5 ∧ x ≠ g6) (fun x hx => ⟨by omega, by omega⟩)) (by rw [List.length_drop]; omega) (by rw [List.length_append, List.length_singleton]; omega) (fun out ho => hok out (by rw [ho, List.length_append, List.length_singleton]; omega))) ?_
      rintro v w35 ⟨rfl, hE35, hgot, k35⟩
      obtain ⟨bo, hbo⟩ : ∃ bo, bo = ((combos (rest.drop (i + 1)) n (set ++ [d])).find? (fitB G l size sum)).isSome := ⟨_, rfl⟩
      rw [← hbo]
      have zw35 := hw.size
      replace hrest := hrest.chg k35 (fun b _ h1 h2 => by have h3 : b < N := h1; rcases h2 with h4 | h4 <;> omega)
      replace hset := (hset.chg k35 (fun b _ h1 h2 => h2.elim h1.1.1 h1.1.2)).mono (S' := fun x => x ≠ g5 ∧ x ≠ g6) (fun x hx => hx.1)
      replace hw := hw.chg k35 (fun b h1 h2 => h2)
      replace hd_3 := hd_3.chg k35 (by intro x h1 h2; exact h2)
      have hgf : GotF _ _ g5 g6 G l size ((combos (rest.drop (i + 1)) n (set ++ [d])).find? (fitB G l size sum)) := hgot
      clear hgot
      refine WL.nil (WX.one ⟨hd_3, ?_⟩)
      refine DT.done (fun we_17 ke_17 => ?_) _
      replace hrest := hrest.pure ke_17
      replace hset := hset.pure ke_17
      replace hw := hw.pure ke_17
      replace hd_3 := hd_3.pure ke_17
      replace hE35 := hE35.pure ke_17
      replace hgf := hgf.pure ke_17
      rotate_left
      refine DT.step [(31, _)] rfl ⟨rfl, trivial⟩ rfl (fun wq_13 kq_13 => ?_)
      replace hE := hE.pure kq_13
      replace hrest := hrest.pure kq_13
      replace hset := hset.pure kq_13
      replace hw := hw.pure kq_13
      replace hcut := hcut.pure kq_13
      replace hz := hz.pure kq_13
      replace hd_3 := hd_3.pure kq_13
      refine WL.build (e := ei) [d] Tryz.underlying39 Tryz.sizeOf3 Tryz.zeroValue3 rfl rfl rfl (by simp [Value.cells] <;> rfl) (by decide) rfl ?_
      intro a_q32 w_q32 q32 l_q32 z_q32 k_q32
      replace hE := hE.pure k_q32
      replace hrest := hrest.pure k_q32
      replace hset := hset.pure k_q32
      replace hw := hw.pure k_q32
      replace hcut := hcut.pure k_q32
      replace hz := hz.pure k_q32
      replace hd_3 := hd_3.pure k_q32
      refine WL.nil (WX.one ⟨hd_3, ?_⟩)
      refine ⟨?_, trivial, trivial, trivial⟩
      refine DT.step [(29, _)] rfl ⟨rfl, trivial⟩ rfl (fun wq_14 kq_14 => ?_)
      replace hE := hE.pure kq_14
      replace hrest := hrest.pure kq_14
      replace hset := hset.pure kq_14
      replace hw := hw.pure kq_14
      replace hcut := hcut.pure kq_14
      replace hz := hz.pure kq_14
      replace hd_3 := hd_3.pure kq_14
      replace q32 := q32.pure kq_14
      have l6c := hE.l6
      have z30 := hz.size
      refine WL.call eg_75 rfl rfl (zclone_calls hset (by omega)) ?_
      rintro v w30 ⟨⟨a30, c30, rfl, h30'⟩, k30⟩
      replace hE := hE.pure k30
      replace hrest := hrest.pure k30
      replace hset := hset.pure k30
      replace hw := hw.pure k30
      replace hcut := hcut.pure k30
      replace hz := hz.pure k30
      replace hd_3 := hd_3.pure k30
      replace q32 := q32.pure k30
      have h30 : Row (fun x => g6 < x ∧ w1.heap.size ≤ x) w30 3 ei a30 c30 set := h30'.mono (fun x hx => by have h9 : _ ≤ x := hx; exact ⟨by omega, by omega⟩)
      clear h30'
      refine WL.nil (WX.one ⟨hd_3, ?_⟩)
      refine ⟨?_, trivial, trivial⟩
      refine DT.step [(30, _), (32, _)] rfl ⟨rfl, rfl, trivial⟩ rfl (fun wq_15 kq_15 => ?_)
      replace hE := hE.pure kq_15
      replace hrest := hrest.pure kq_15
      replace hset := hset.pure kq_15
      replace hw := hw.pure kq_15
      replace hcut := hcut.pure kq_15
      replace hz := hz.pure kq_15
      replace hd_3 := hd_3.pure kq_15
      replace q32 := q32.pure kq_15
      replace h30 := h30.pure kq_15
      have l6c := hE.l6
      have z33 := hz.size
      refine WL.append (e := ei) info_3 rfl Tryz.underlying39 rfl rfl h30 (q32.rsl.src Tryz.underlying39) (by constructor <;> (simp only [List.length_cons, List.length_nil]; omega)) (fun b hb => by have h9 : _ ≤ b := hb; exact ⟨by omega, by omega⟩) rfl ?_
      intro a33 c33 w33 h33 g33 n33
      replace hE := hE.hi g33.chg (fun b h1 h2 => by have := h2.2.1; omega)
      replace hrest := hrest.chg g33.chg (fun b _ h1 h2 => by have := h2.2.1; have h3 : b < N := h1; omega)
      replace hcut := hcut.chg g33.chg (fun b _ h1 h2 => by have := h2.2.1; have h3 : b < N := h1; omega)
      replace hset := hset.chg g33.chg (fun b _ h1 h2 => by have := h2.2.2; have := h1.2; omega)
      replace hw := hw.chg g33.chg (fun b h1 h2 => by have := h2.2.2; omega)
      replace hd_3 := hd_3.chg g33.chg (by intro x h1 h2; exfalso; have h3 := h2.2.2; omega)
      refine WL.nil (WX.one ⟨hd_3, ?_⟩)
      refine ⟨?_, trivial⟩
      refine DT.step [(26, _), (28, _), (33, _), (34, _)] rfl ⟨rfl, rfl, rfl, rfl, trivial⟩ rfl (fun wq_16 kq_16 => ?_)
      replace hE := hE.pure kq_16
      replace hrest := hrest.pure kq_16
      replace hset := hset.pure kq_16
      replace hw := hw.pure kq_16
      replace hcut := hcut.pure kq_16
      replace hd_3 := hd_3.pure kq_16
      replace h33 := h33.pure kq_16
      have zb := hw.size
      refine WL.call eg_53 rfl rfl (ih hE hcut (h33.rsl.mono (S' := fun x => x ≠ g5 ∧ x ≠ g6) (fun x hx => ⟨by omega, by omega⟩)) (by rw [List.length_drop]; omega) (by rw [List.length_append, List.length_singleton]; omega) (fun out ho => hok out (by rw [ho, List.length_append, List.length_singleton]; omega))) ?_
      rintro v w35 ⟨rfl, hE35, hgot, k35⟩
      obtain ⟨bo, hbo⟩ : ∃ bo, bo = ((combos (rest.drop (i + 1)) n (set ++ [d])).find? (fitB G l size sum)).isSome := ⟨_, rfl⟩
      rw [← hbo]
      have zw35 := hw.size
      replace hrest := hrest.chg k35 (fun b _ h1 h2 => by have h3 : b < N := h1; rcases h2 with h4 | h4 <;> omega)
      replace hset := (hset.chg k35 (fun b _ h1 h2 => h2.elim h1.1.1 h1.1.2)).mono (S' := fun x => x ≠ g5 ∧ x ≠ g6) (fun x hx => hx.1)
      replace hw := hw.chg k35 (fun b h1 h2 => h2)
      replace hd_3 := hd_3.chg k35 (by intro x h1 h2; exact h2)
      have hgf : GotF _ _ g5 g6 G l size ((combos (rest.drop (i + 1)) n (set ++ [d])).find? (fitB G l size sum)) := hgot
      clear hgot
      refine WL.nil (WX.one ⟨hd_3, ?_⟩)
      refine DT.done (fun we_17 ke_17 => ?_) _
      replace hrest := hrest.pure ke_17
      replace hset := hset.pure ke_17
      replace hw := hw.pure ke_17
      replace hd_3 := hd_3.pure ke_17
      replace hE35 := hE35.pure ke_17
      replace hgf := hgf.pure ke_17
      rotate_left
      all_goals
        refine WX.then_normal (?_)
        first | refine WC.cond_dec rfl (fun hc35 => ?_) (fun hc35 => ?_) | refine WC.cond_split rfl (fun hc35 => ?_) (fun hc35 => ?_)
        ·
          refine WC.seq (WC.region (WL.assign rfl rfl (WL.nil (WX.then_normal (WC.ret (WX.block_ret (WX.then_ret (?_))))))))
          refine WX.then_ret (WX.block_ret (WX.then_ret (?_)))
          refine WX.ret1 (.inl rfl) Tryz.results53 rfl ?_
          have hh : bo = true := hc35
          obtain ⟨out, hout⟩ : ∃ out, (combos (rest.drop (i + 1)) n (set ++ [d])).find? (fitB G l size sum) = some out := Option.isSome_iff_exists.1 (by rw [← hbo, hh])
          have hhit := combos_hit hd hout
          rw [hco, hhit]
          exact ⟨_, rfl, rfl, hE35, fun o ho => by injection ho with ho; subst ho; exact (hgf _ hout).up zb, hw⟩
        ·
          refine WC.skip (WX.block_normal (WX.then_normal (WC.region (WL.add64 rfl rfl (by omega) rfl (WL.move rfl rfl (WL.nil (?_)))))))
          have hnone : (combos (rest.drop (i + 1)) n (set ++ [d])).find? (fitB G l size sum) = none := by
            rw [hc35] at hbo
            exact Option.not_isSome_iff_eq_none.1 (by rw [← hbo]; decide)
          exact WX.loop_next (i + 1) ⟨rfl, rfl, rfl, rfl, rfl, rfl, rfl, trivial⟩ ⟨by omega, hE35, hrest, hset, by rw [hco]; exact combos_drop hd hnone, hw⟩ (by omega)
    ·
      refine WL.nil (WX.then_normal (WC.seq (WC.cond_false rfl (WC.exit (WX.then_exit (WX.then_exit (WX.block_here (?_))))))))
      refine WX.then_normal (WC.seq (WC.region (WL.assign rfl rfl (WL.nil (WX.then_normal (WC.ret (?_)))))))
      refine WX.ret1 (.inl rfl) Tryz.results53 rfl ?_
      have hil : i = rest.length := by omega
      subst hil
      rw [List.drop_length, combos_nil] at hco
      rw [hco]
      exact ⟨_, rfl, rfl, hE, (fun o ho => by cases ho), hw⟩
end Go.Proofs.YtggecdldnpildaaGreat
namespace Go.Proofs.YtggecdldnpildaaGreat
open Go.RowKit Go.HL
set_option maxRecDepth 100000

/-! what a block's cells must hold -/
set_option maxHeartbeats 4000000 in
theorem layout_calls {S : Nat → Prop} {w : World} {a R n f : Nat} (hB : AB w a R n f) (hn : 5 ≤ n ∧ n ≤ 16) {ao : Option Addr} {c : Nat} {b : List UInt8} (hb : RSl S w eb ao c b) (hl : 1 ≤ b.length ∧ b.length ≤ 1024) :
    Calls Tryz.prog 41 [ptr a, .slice ao b.length c].toArray w (Ret fun v w' => (∃ a2 c2 rs, v = .tuple #[.slice a2 rs.length c2, vi 0] ∧ KR (w.heap.size ≤ ·) w' 26 5 a2 c2 rs ∧ rs.map Rw.xs = layA n b) ∧ Chg Nob w w') := by
  have hw := Chg.refl Nob w
  have la := hB.lt
  replace hb := hb.old
  have h8 := secsA_le hl.2
  have hsu := secsA_up (size := b.length)
  have hpl : (padA b).length = b.length + 128 := by simp [padA]
  refine Calls.of_WC Tryz.func41 rfl Tryz.ntmps41 (by simp) ?_
  refine WC.seq (WC.region (WL.assign rfl rfl (WL.assign rfl rfl (WL.nil (WX.then_normal (WC.seq (WC.region (?_))))))))
  refine WL.move rfl rfl (?_)
  refine WL.call eg_63 rfl rfl (jclone_calls hb hl.1 (by omega)) ?_
  rintro v w1 ⟨⟨g, c1, rfl, hq, hg1⟩, k1⟩
  have zs_k1 := k1.size
  replace hB := hB.pure k1
  replace hb := hb.pure k1
  replace hw := hw.pure k1
  have zw1 := hw.size
  refine WL.appendZs (m := 128) (S := fun x => w.heap.size ≤ x) info_5 Tryz.underlying26 Tryz.underlying3 rfl rfl (hq.mono (fun x hx => by have h2 : x = g := hx; omega)) ⟨by decide, by omega, by omega⟩ (fun x hx => by omega) rfl ?_
  intro ap cp w2 hP gP
  have kP : Chg Nob w w2 := hw.trans gP.chg (fun x hx hm => by obtain ⟨⟨a9, e9, rfl⟩, _⟩ := hm; injection e9 with e9; subst e9; exfalso; omega)
  replace hB := hB.chg gP.chg (fun hm => by have := hm.2; omega)
  replace hw := kP
  have zw2 := kP.size
  rw [show b ++ List.replicate 128 (0 : UInt8) = padA b from rfl] at hP ⊢
  replace hP := hP.rsk
  refine WL.assign rfl rfl (WL.nil (WX.then_normal (WC.seq (WC.region (WL.assign rfl rfl (WL.nil (WX.then_normal (?_))))))))
  refine WC.seq (WC.seq (WC.region (WL.move rfl rfl (WL.move rfl rfl (WL.len Tryz.underlying26 rfl rfl (?_))))))
  have h0n : (0 : Int) = ((0 : Nat) : Int) := rfl
  refine WL.call eg_39 rfl rfl (rows_calls hB hn 0 b.length (by omega) hl.2) ?_
  rintro v w3 ⟨⟨ar, cr, rfl, hr⟩, k3⟩
  have zs_k3 := k3.size
  replace hB := hB.pure k3
  replace hw := hw.pure k3
  replace hP := hP.pure k3
  refine WL.len Tryz.underlying82 rfl rfl (WL.move rfl rfl (WL.nil (WX.then_normal (WC.block (?_)))))
  obtain ⟨rows, hrows⟩ : ∃ rows, rows = rowsA n 0 (secsA b.length) := ⟨_, rfl⟩
  have hrl : rows.length ≤ 8 := by rw [hrows]; exact Nat.le_trans (rowsA_len (by omega) _ _) h8
  have hdat : datR rows = secsA b.length := by rw [hrows]; exact datR_rows (by omega) _ _
  have hlay : layR rows (padA b) = layA n b := by rw [hrows]; rfl
  rw [← hrows] at hr ⊢
  have zw0 := hw.size
  refine WC.loop (σ := Nat × ((Option Addr × Nat) × List Rw) × (Option Addr × Nat)) (fun q => [(0, ptr a), (6, .slice q.2.2.1 ((padA b).drop (128 * datR (rows.take q.1))).length q.2.2.2), (7, .slice q.2.1.1.1 q.2.1.2.length q.2.1.1.2), (19, .slice ar rows.length cr), (20, vi rows.length), (21, vi (q.1 : Int))])
    (fun q w' => q.1 ≤ rows.length ∧ RSK (w.heap.size ≤ ·) w' 5 eb q.2.2.1 q.2.2.2 ((padA b).drop (128 * datR (rows.take q.1))) ∧ KR (w.heap.size ≤ ·) w' 26 5 q.2.1.1.1 q.2.1.1.2 q.2.1.2 ∧ q.2.1.2.map Rw.xs = layR (rows.take q.1) (padA b) ∧ RSK (w.heap.size ≤ ·) w' 85 er2 ar cr rows ∧ Chg Nob w w') (fun q => rows.length - q.1) (0, ((none, 0), []), (ap, cp)) ⟨rfl, rfl, rfl, rfl, rfl, rfl, trivial⟩
    ⟨Nat.zero_le _, hP, KR.nil _ _ _ _, rfl, RSK.mono hr.rsk (fun x _ hx => by have h1 : _ ≤ x := hx; show w.heap.size ≤ x; omega), hw⟩ ?_
  clear hP hr hw hB
  rintro ⟨i, ⟨⟨ag, cg⟩, rs⟩, ap, cp⟩ w4 ⟨hi, hP, hG, hrs, hr, hw⟩
  simp only at hi hP hG hrs
  dsimp only
  have zw4 := hw.size
  replace hP := hP.low
  replace hG := hG.low
  replace hr := hr.low
  have hrslen : rs.length ≤ 160 := by
    have h1 : rs.length = (rs.map Rw.xs).length := by simp
    rw [h1, hrs, layR_len]
    have h2 := sumR_take rows i
    have h3 : sumR rows = costA n (secsA b.length) := by rw [hrows]; rfl
    have h4 := (costA_is hn h8).2
    omega
  refine WC.seq (WC.region (?_))
  refine WL.lss? rfl rfl rfl (fun h22 => ?_) (fun h22 => ?_)
  ·
    refine WL.nil (WX.then_normal (WC.seq (WC.cond_true rfl (WC.skip (WX.then_normal (WC.seq (WC.block (?_))))))))
    refine WC.seq (WC.region (?_))
    obtain ⟨x, hx⟩ : ∃ x, rows[i]? = some x := ⟨_, List.getElem?_eq_getElem (by omega)⟩
    have hxm := rowsA_mem (n := n) (by omega) _ _ _ (hrows ▸ List.mem_of_getElem? hx)
    have htk : datR (rows.take (i + 1)) = datR (rows.take i) + x.2 := by rw [List.take_add_one, hx, Option.toList_some]; simp [datR]
    have hdl : datR (rows.take (i + 1)) ≤ secsA b.length := by
      rw [← hdat]
      have : ∀ (l : List (Nat × Nat)) (j : Nat), datR (l.take j) ≤ datR l := fun l => by
        induction l with
        | nil => intro j; simp
        | cons y l ih =>
          intro j
          cases j with
          | zero => simp [datR]
          | succ j => have := ih j; rw [List.take_succ_cons, datR_cons, datR_cons]; omega
      exact this _ _
    have hr1 := RSK.rsl hr
    refine WL.indexT Tryz.underlying82 Tryz.sizeOf85 hr1 rfl rfl ⟨hx, rfl⟩ rfl ?_
    intro bb oo hcc
    refine WL.loads _ Tryz.isAgg85 Tryz.sizeOf85 rfl hcc rfl rfl (?_)
    refine WL.alloc Tryz.zeroValue85 rfl ?_
    intro g_1 w_1 hge_1 hlt_1 hb_1 k_1
    have zs_k_1 := k_1.size
    replace hP := hP.pure k_1
    replace hG := hG.pure k_1
    replace hr := hr.pure k_1
    replace hw := hw.pure k_1
    refine WL.stores Tryz.sizeOf85 hb_1 rfl rfl (by rfl) (by exact Enc.one _ _) (by exact Nat.le_of_ble_eq_true rfl) rfl ?_
    intro w_2 hs_2 hn_2 k_2
    have zs_k_2 := k_2.size
    replace hP := hP.chg k_2 (by intros; exfalso; (try dsimp only at *); omega)
    replace hG := hG.chg k_2 (by intro b h1 h2 h3; have h4 : _ = _ := h3; (try dsimp only at h2); exfalso; omega)
    replace hr := hr.chg k_2 (by intros; exfalso; (try dsimp only at *); omega)
    replace hw := hw.chg k_2 (by intro x h1 h2; have h3 : _ = _ := h2; exfalso; omega)
    replace hb_1 := hn_2
    refine WL.nil (WX.then_normal (WC.seq (WC.region (WL.assign rfl rfl (WL.nil (WX.then_normal (WC.seq (?_))))))))
    refine WC.seq (WC.region (WL.fieldAddr (fld_85_1) rfl rfl (WL.loadB Tryz.isAgg3 hb_1 rfl rfl rfl (WL.move rfl rfl (WL.nil (WX.then_normal (WC.block (?_))))))))
    obtain ⟨p0, hp0⟩ : ∃ p0, p0 = (padA b).drop (128 * datR (rows.take i)) := ⟨_, rfl⟩
    have hp0l : p0.length = (padA b).length - 128 * datR (rows.take i) := by rw [hp0, List.length_drop]
    have hpx : 128 * x.2 ≤ p0.length := by omega
    have hx2 : x.2 ≤ 8 := by omega
    rw [← hp0] at hP ⊢
    refine WC.loop (σ := Nat × ((Option Addr × Nat) × List Rw) × (Option Addr × Nat)) (fun q => [(0, ptr a), (6, .slice q.2.2.1 (p0.drop (128 * q.1)).length q.2.2.2), (7, .slice ag rs.length cg), (10, .slice q.2.1.1.1 q.2.1.2.length q.2.1.1.2), (19, .slice ar rows.length cr), (20, vi rows.length), (21, vi (i : Int)), (26, vi (x.2 : Nat)), (27, vi (q.1 : Int))])
      (fun q w' => q.1 ≤ x.2 ∧ RSK (fun b => w.heap.size ≤ b ∧ b < w4.heap.size) w' 5 eb q.2.2.1 q.2.2.2 (p0.drop (128 * q.1)) ∧ Row (w4.heap.size ≤ ·) w' 26 erow q.2.1.1.1 q.2.1.1.2 q.2.1.2 ∧ (∀ r ∈ q.2.1.2, RSK (w.heap.size ≤ ·) w' 5 eb r.ao r.cap r.xs) ∧ q.2.1.2.map Rw.xs = chunksA q.1 p0 ∧ KR (fun b => w.heap.size ≤ b ∧ b < w4.heap.size) w' 26 5 ag cg rs ∧ RSK (fun b => w.heap.size ≤ b ∧ b < w4.heap.size) w' 85 er2 ar cr rows ∧ Chg Nob w w' ∧ w4.heap.size ≤ w'.heap.size) (fun q => x.2 - q.1) (0, ((none, 0), []), (ap, cp)) ⟨rfl, rfl, rfl, rfl, rfl, rfl, rfl, rfl, rfl, trivial⟩
      ⟨Nat.zero_le _, hP, Row.nil _ _ _ _, (by intro r hr; simp at hr), rfl, hG, hr, hw, by omega⟩ ?_
    clear hP hG hr hw
    rintro ⟨j, ⟨⟨ad, cd⟩, ds⟩, ap, cp⟩ w5 ⟨hj, hP, hDo, hDi, hds, hG, hr, hw, zw5⟩
    simp only at hj hP hDo hDi hds
    dsimp only
    have hdsl : ds.length = j := by
      have h1 : ds.length = (ds.map Rw.xs).length := by simp
      rw [h1, hds, chunksA_len]
    have zw5' := hw.size
    refine WC.seq (WC.region (?_))
    refine WL.lss? rfl rfl rfl (fun h28 => ?_) (fun h28 => ?_)
    ·
      refine WL.nil (WX.then_normal (WC.seq (WC.cond_true rfl (WC.skip (WX.then_normal (WC.seq (WC.block (?_))))))))
      refine WC.seq (WC.region (WL.move rfl rfl (WL.move rfl rfl (?_))))
      have h27 : (j : Int) < x.2 := by assumption
      have hpj : (p0.drop (128 * j)).length = p0.length - 128 * j := by rw [List.length_drop]
      have hcap := hP.rsl.cap
      have hlen : ((p0.drop (128 * j)).take 128).length = 128 := by rw [List.length_take]; omega
      have hPc : RSK (fun b => w.heap.size ≤ b ∧ b < w4.heap.size) w5 5 eb (cutAt ap 128 0 1) 128 ((p0.drop (128 * j)).take 128) := RSl.top hP (by omega) ⟨by omega, by omega, by omega⟩
      refine WL.sliceM (h := ((p0.drop (128 * j)).take 128).length) (m := 128) Tryz.underlying26 Tryz.sizeOf5 rfl (by show some (vi 128) = some (vi (((p0.drop (128 * j)).take 128).length : Int)); rw [hlen]; rfl) rfl ⟨by omega, by omega⟩ rfl ?_
      refine WL.build (e := erow) [⟨cutAt ap 128 0 1, 128, (p0.drop (128 * j)).take 128⟩] Tryz.underlying87 Tryz.sizeOf26 Tryz.zeroValue26 rfl rfl rfl (by simp [Value.cells] <;> rfl) (by decide) rfl ?_
      intro a_q32 w_q32 q32 l_q32 z_q32 k_q32
      have zs_k_q32 := k_q32.size
      replace hP := hP.pure k_q32
      replace hDo := hDo.pure k_q32
      replace hG := hG.pure k_q32
      replace hr := hr.pure k_q32
      replace hw := hw.pure k_q32
      replace hPc := hPc.pure k_q32
      refine WL.append (e := erow) info_26 rfl Tryz.underlying87 rfl rfl hDo (q32.rsl.src Tryz.underlying87) (by constructor <;> (simp only [List.length_cons, List.length_nil]; omega)) (fun b hb => by have h9 : _ ≤ b := hb; show w4.heap.size ≤ b; omega) rfl ?_
      intro a9 c9 w9 hDo9 g9 n9
      have hDi9 : ∀ r ∈ ds ++ [⟨cutAt ap 128 0 1, 128, (p0.drop (128 * j)).take 128⟩], RSK (w.heap.size ≤ ·) w9 5 eb r.ao r.cap r.xs := fun r hr => by
        rcases List.mem_append.1 hr with h1 | h1
        ·
          exact ((hDi r h1).pure k_q32).grow hDo g9 (by decide)
        ·
          rw [List.mem_singleton] at h1
          subst h1
          exact RSK.mono (hPc.grow hDo g9 (by decide)) (fun b _ hb => hb.1)
      replace hP := hP.grow hDo g9 (by decide)
      replace hr := hr.grow hDo g9 (by decide)
      replace hG := hG.chg g9.chg (fun b _ h1 h2 => by have := h1.2; have := h2.2; omega)
      replace hw := hw.chg g9.chg (fun b h1 h2 => by have := h2.2; omega)
      have z9 := g9.chg.size
      refine WL.assign rfl rfl (WL.nil (WX.then_normal (WC.region (WL.move rfl rfl (?_)))))
      refine WL.slice (l := 128) (h := (p0.drop (128 * j)).length) (j := .i64) (e := eb) Tryz.underlying26 Tryz.sizeOf5 hP rfl (.inl rfl) (.inr ⟨rfl, rfl⟩) ⟨by omega, Nat.le_refl _⟩ rfl ?_
      intro ap2 cp2 hP2 _
      have ep : ((p0.drop (128 * j)).take (p0.drop (128 * j)).length).drop 128 = p0.drop (128 * (j + 1)) := by rw [List.take_length, List.drop_drop, show 128 * j + 128 = 128 * (j + 1) from by omega]
      rw [ep] at hP2 ⊢
      refine WL.assign rfl rfl (WL.nil (WX.block_normal (WX.then_normal (WC.region (WL.add64 rfl rfl (by omega) rfl (WL.move rfl rfl (WL.nil (?_))))))))
      exact WX.loop_next (j + 1, ((a9, c9), ds ++ [⟨cutAt ap 128 0 1, 128, (p0.drop (128 * j)).take 128⟩]), (ap2, cp2)) ⟨rfl, rfl, rfl, rfl, rfl, rfl, rfl, rfl, rfl, trivial⟩ ⟨by show j + 1 ≤ x.2; omega, hP2, hDo9, hDi9, by show (ds ++ [_]).map Rw.xs = chunksA (j + 1) p0; rw [chunksA_snoc, List.map_append, hds]; rfl, hG, hr, hw, by omega⟩ (by show x.2 - (j + 1) < x.2 - j; omega)
    ·
      refine WL.nil (WX.then_normal (WC.seq (WC.cond_false rfl (WC.exit (WX.then_exit (WX.then_exit (WX.block_here (?_))))))))
      refine WX.then_normal (WC.seq (WC.region (WL.move rfl rfl (?_))))
      have hjx : j = x.2 := by omega
      have hcs : ∀ d ∈ xss ds, d.length = 128 := fun d hd => by
        have hd' : d ∈ ds.map Rw.xs := hd
        rw [hds] at hd'
        exact chunksA_all j p0 (by omega) d hd'
      have hne : xss ds ≠ [] := fun e => by
        have h1 : (xss ds).length = ds.length := xss_len ds
        rw [e] at h1
        simp at h1
        omega
      have hRS : RS (w.heap.size ≤ ·) w5 ad cd ds := ⟨hDo.rsl.mono (fun b hb => by have h9 : _ ≤ b := hb; show w.heap.size ≤ b; omega), fun r hr => (hDi r hr).rsl⟩
      refine WL.call eg_66 rfl rfl (make_good (n := 128) hRS (by omega) (by rw [lenC_of hne hcs]; rfl)) ?_
      rintro v w6 ⟨⟨go, gs, rfl, hO, hgs, hgo⟩, k6⟩
      replace hDi : ∀ r ∈ ds, RSK (w.heap.size ≤ ·) w6 5 eb r.ao r.cap r.xs := fun r hr => (hDi r hr).pure k6
      have zs_k6 := k6.size
      replace hP := hP.pure k6
      replace hDo := hDo.pure k6
      replace hG := hG.pure k6
      replace hr := hr.pure k6
      replace hw := hw.pure k6
      have hK : KS2 (fun b => w5.heap.size ≤ b) w6 26 5 (some ⟨go, 0, none⟩) 3 (orows gs 128 (three (xss ds) 128 ds.length)) := hO.ks (fun b hb => by omega)
      have hKl : (orows gs 128 (three (xss ds) 128 ds.length)).length = 3 := by rw [orows_len hO.len, hgs]
      have hKx : (orows gs 128 (three (xss ds) 128 ds.length)).map Rw.xs = three (chunksA x.2 p0) 128 x.2 := by
        have h1 := xss_orows (gs := gs) (n := 128) (ys := three (xss ds) 128 ds.length) hO.len
        have h2 : xss ds = chunksA j p0 := hds
        rw [show (orows gs 128 (three (xss ds) 128 ds.length)).map Rw.xs = xss (orows gs 128 (three (xss ds) 128 ds.length)) from rfl, h1, h2, hdsl, hjx]
      clear hO
      refine WL.move rfl rfl (WL.extract rfl rfl rfl (WL.extract rfl rfl rfl (WL.assign rfl rfl (WL.assign rfl rfl (WL.nil (WX.then_normal (WC.seq (?_))))))))
      refine WC.seq (WC.region (WL.move rfl rfl (?_)))
      refine WL.neqF rfl rfl rfl (by rfl) ?_
      refine WL.nil (WX.then_normal (WC.cond_false rfl (WC.skip (WX.then_normal (WC.region (WL.move rfl rfl (WL.move rfl rfl (?_))))))))
      have z6 := k6.size
      have hGs : ∀ b, Eqb ag b → b < w4.heap.size := fun b hb => (hG.outer.at_.eqb hb).2
      have hG1 : KR (w.heap.size ≤ ·) w6 26 5 ag cg rs := hG.mono (fun b hb => hb.1)
      refine WL.append (e := erow) (ys := orows gs 128 (three (xss ds) 128 ds.length)) info_26 rfl Tryz.underlying87 rfl (by show some (Value.slice (some ⟨go, 0, none⟩) 3 3) = some (Value.slice (some ⟨go, 0, none⟩) (orows gs 128 (three (xss ds) 128 ds.length)).length 3); rw [hKl]) hG1.outer (hK.outer.rsl.src Tryz.underlying87) (by constructor <;> omega) (fun b hb => by have h9 : _ ≤ b := hb; show w.heap.size ≤ b; omega) rfl ?_
      intro a7 c7 w7 hG7 g7 n7
      have hG7k := hG1.app (by decide) (fun r hr => RSK.mono (hK.inner r hr) (fun b _ hb => by show w.heap.size ≤ b; omega)) hG7 g7
      have z7 := g7.chg.size
      replace hDo := hDo.chg g7.chg (fun b _ h1 h2 => by have := hGs b h2.1; have h9 : _ ≤ b := h1; omega)
      replace hDi : ∀ r ∈ ds, RSK (w.heap.size ≤ ·) w7 5 eb r.ao r.cap r.xs := fun r hr => (hDi r hr).grow hG1.outer g7 (by decide)
      replace hP := hP.grow hG1.outer g7 (by decide)
      replace hr := hr.grow hG1.outer g7 (by decide)
      replace hw := hw.chg g7.chg (fun b h1 h2 => by have := h2.2; omega)
      refine WL.move rfl rfl (?_)
      refine WL.append (e := erow) (xs := rs ++ orows gs 128 (three (xss ds) 128 ds.length)) info_26 rfl Tryz.underlying87 rfl rfl hG7k.outer (hDo.rsl.src Tryz.underlying87) (by rw [List.length_append, hKl]; constructor <;> omega) (fun b hb => by have h9 : _ ≤ b := hb; show w.heap.size ≤ b; omega) rfl ?_
      intro a8 c8 w8 hG8 g8 n8
      have hG8k := hG7k.app (by decide) hDi hG8 g8
      have z8 := g8.chg.size
      replace hP := hP.grow hG7k.outer g8 (by decide)
      replace hr := hr.grow hG7k.outer g8 (by decide)
      replace hw := hw.chg g8.chg (fun b h1 h2 => by have := h2.2; omega)
      refine WL.assign rfl rfl (WL.nil (WX.block_normal (WX.then_normal (WC.region (WL.add64 rfl rfl (by omega) rfl (WL.move rfl rfl (WL.nil (?_))))))))
      have ep : p0.drop (128 * j) = (padA b).drop (128 * datR (rows.take (i + 1))) := by rw [hp0, List.drop_drop, htk, hjx, Nat.mul_add]
      rw [ep] at hP ⊢
      refine WX.loop_next (i + 1, ((a8, c8), rs ++ orows gs 128 (three (xss ds) 128 ds.length) ++ ds), (ap, cp)) ⟨rfl, rfl, rfl, rfl, rfl, rfl, trivial⟩ ⟨by show i + 1 ≤ rows.length; omega, RSK.mono hP (fun b _ hb => hb.1), hG8k, ?_, RSK.mono hr (fun b _ hb => hb.1), hw⟩ (by show rows.length - (i + 1) < rows.length - i; omega)
      show (rs ++ orows gs 128 (three (xss ds) 128 ds.length) ++ ds).map Rw.xs = layR (rows.take (i + 1)) (padA b)
      rw [List.map_append, List.map_append, hrs, hKx, hds, hjx, List.take_add_one, hx, Option.toList_some, layR_append, ← hp0, layR, layR, List.append_nil, List.append_assoc]
  ·
    refine WL.nil (WX.then_normal (WC.seq (WC.cond_false rfl (WC.exit (WX.then_exit (WX.then_exit (WX.block_here (?_))))))))
    refine WX.then_normal (WC.seq (WC.region (WL.move rfl rfl (WL.assign rfl rfl (WL.assign rfl rfl (WL.nil (WX.then_normal (?_))))))))
    refine WC.ret (?_)
    refine WX.ret2 (.inl rfl) Tryz.results41 rfl rfl ?_
    have hil : i = rows.length := by omega
    subst hil
    rw [List.take_length, hlay] at hrs
    exact ⟨_, rfl, ⟨ag, cg, rs, rfl, hG.mono (fun b hb => hb.1), hrs⟩, hw⟩
end Go.Proofs.YtggecdldnpildaaGreat
namespace Go.Proofs.YtggecdldnpildaaGreat
open Go.RowKit Go.HL
set_option maxRecDepth 100000

/-! a block is written -/
theorem bdrv_in {s : RA} {addr size : Nat} (h5 : 5 ≤ s.dn) : ∀ d ∈ bdrv s addr size, isS s d := fun d hd => by
  obtain ⟨j, _, _, rfl⟩ := drvA_in (by omega) hd
  have := Nat.mod_lt (addr + j) (show 0 < s.dn by omega)
  exact ⟨by omega, by omega⟩
theorem bdrv_len {s : RA} {addr size : Nat} (hd : s.dn ≤ 16) : (bdrv s addr size).length ≤ 16 := by rw [drvA_len]; omega
theorem layA_all (n : Nat) (b : List UInt8) (hn : 4 ≤ n) : ∀ c ∈ layA n b, c.length = 128 := by
  refine layR_all _ _ ?_
  rw [datR_rows hn]
  have := secsA_up (size := b.length)
  simp [padA]
  omega
set_option maxHeartbeats 2000000 in
theorem awrite_good {A S : Nat → Prop} {w : World} {a R f : Nat} {s : RA} (hB : AB w a R s.dn f) (hna : ¬ A a) (h : RK A w R s) (hA : ∀ x, A x → x < w.heap.size) (hu : Up s) (h5 : 5 ≤ s.dn) (hf : f < s.sn) (addr : Nat) {ao : Option Addr} {c : Nat} {b : List UInt8} (hb : RSl S w eb ao c b) (hl : 1 ≤ b.length ∧ b.length ≤ 1024)
    (ha : addr + costA s.dn (secsA b.length) ≤ s.dn * (s.sn - f)) (hn : s.waits.length ≤ 90000) (hg : (bgon s addr b.length).length ≤ 3) :
    Calls Tryz.prog 17 [ptr a, vi addr, .slice ao b.length c].toArray w (Ret fun v w' => v = vi 0 ∧ RK (fun x => A x ∨ w.heap.size ≤ x) w' R (wrT s f addr (layA s.dn b) (layA s.dn b).length) ∧ Chg A w w') := by
  have hw := Chg.refl Nob w
  have la := hB.lt
  have hdn := h.ok.dn
  have hsn := h.ok.sn
  have hR := hA R h.aR
  replace hb := hb.old
  have hm : s.dn * (s.sn - f) ≤ 16 * 2000 := Nat.mul_le_mul (by omega) (by omega)
  refine Calls.of_WC Tryz.func17 rfl Tryz.ntmps17 (by simp) ?_
  refine WC.seq (WC.region (WL.assign rfl rfl (WL.nil (WX.then_normal (WC.seq (WC.region (WL.move rfl rfl (?_))))))))
  refine WL.move rfl rfl (WL.move rfl rfl (WL.len Tryz.underlying26 rfl rfl (?_)))
  refine WL.call eg_21 rfl rfl (drives_good hB h h5 hf addr b.length hl ha) ?_
  rintro v w1 ⟨⟨a1, c1, rfl, hD⟩, k1⟩
  have zs_k1 := k1.size
  replace hB := hB.pure k1
  replace h := h.pure k1
  replace hb := hb.pure k1
  replace hw := hw.pure k1
  refine WL.move rfl rfl (WL.extract rfl rfl rfl (WL.extract rfl rfl rfl (WL.assign rfl rfl (WL.assign rfl rfl (WL.nil (WX.then_normal (WC.seq (?_))))))))
  refine WC.seq (WC.region (WL.move rfl rfl (?_)))
  refine WL.neqF rfl rfl rfl (by rfl) ?_
  refine WL.nil (WX.then_normal (WC.cond_false rfl (WC.skip (WX.then_normal (WC.seq (WC.seq (WC.region (?_))))))))
  refine WL.move rfl rfl (WL.move rfl rfl (?_))
  refine WL.call eg_40 rfl rfl (gone_calls hB h hD.rsl (bdrv_in h5) (Nat.le_trans (bdrv_len hdn.2) (by decide))) ?_
  rintro v w2 ⟨hgood, _, k2⟩
  obtain ⟨a2, c2, rfl, hG⟩ := hgood hg
  have zs_k2 := k2.size
  replace hB := hB.pure k2
  replace h := h.pure k2
  replace hb := hb.pure k2
  replace hw := hw.pure k2
  refine WL.move rfl rfl (WL.extract rfl rfl rfl (WL.extract rfl rfl rfl (WL.assign rfl rfl (WL.assign rfl rfl (WL.nil (WX.then_normal (WC.seq (?_))))))))
  refine WC.region (WL.move rfl rfl (?_))
  refine WL.neqF rfl rfl rfl (by rfl) ?_
  refine WL.nil (WX.then_normal (WC.cond_false rfl (WC.skip (WX.then_normal (WC.seq (WC.region (WL.move rfl rfl (?_))))))))
  refine WL.move rfl rfl (?_)
  refine WL.call eg_41 rfl rfl (layout_calls hB ⟨h5, hdn.2⟩ hb hl) ?_
  rintro v w3 ⟨⟨a3, c3, rs, rfl, hK, hx⟩, k3⟩
  have zw2 := hw.size
  have zs_k3 := k3.size
  replace hB := hB.pure k3
  replace h := h.pure k3
  replace hb := hb.pure k3
  replace hw := hw.pure k3
  refine WL.move rfl rfl (WL.extract rfl rfl rfl (WL.extract rfl rfl rfl (WL.assign rfl rfl (WL.assign rfl rfl (WL.nil (WX.then_normal (WC.seq (?_))))))))
  refine WC.seq (WC.region (WL.move rfl rfl (?_)))
  refine WL.neqF rfl rfl rfl (by rfl) ?_
  refine WL.nil (WX.then_normal (WC.cond_false rfl (WC.skip (WX.then_normal (WC.seq (WC.seq (WC.region (?_))))))))
  refine WL.move rfl rfl (WL.len Tryz.underlying87 rfl rfl (WL.move rfl rfl (WL.nil (WX.then_normal (WC.block (?_))))))
  have zw3 := hw.size
  obtain ⟨n0, hn0⟩ : ∃ n0, n0 = w3.heap.size := ⟨_, rfl⟩
  obtain ⟨cells, hcells⟩ : ∃ cells, cells = layA s.dn b := ⟨_, rfl⟩
  have hcl : cells.length = costA s.dn (secsA b.length) := by rw [hcells, layA_len _ _ (by omega)]
  have hrl : rs.length = cells.length := by rw [hcells, ← hx]; simp
  have h20 := (costA_is ⟨h5, hdn.2⟩ (secsA_le hl.2)).2
  rw [← hcells] at hx ⊢
  have hK0 : KR (fun x => w.heap.size ≤ x ∧ x < n0) w3 26 5 a3 c3 rs := (hK.mono (S' := fun x => w.heap.size ≤ x) (fun x hx => by have h9 : _ ≤ x := hx; show w.heap.size ≤ x; omega)).low.mono (fun x hx => ⟨hx.1, by rw [hn0]; exact hx.2⟩)
  refine WC.loop (σ := Nat) (fun i => [(0, ptr a), (1, vi addr), (44, .slice a3 rs.length c3), (45, vi rs.length), (46, vi (i : Int))]) (fun i w' => i ≤ rs.length ∧ AB w' a R s.dn f ∧ KR (fun x => w.heap.size ≤ x ∧ x < n0) w' 26 5 a3 c3 rs ∧ RK (fun x => A x ∨ n0 ≤ x) w' R (wrT s f addr cells i) ∧ Chg A w w' ∧ n0 ≤ w'.heap.size) (fun i => rs.length - i) 0 ⟨rfl, rfl, rfl, rfl, rfl, trivial⟩ ⟨Nat.zero_le _, hB, hK0, h.mono (fun x hx => .inl hx), hw.mono (fun x _ hx => hx.elim), by omega⟩ ?_
  clear hB h hb hw hK hK0
  rintro i w4 ⟨hi, hB, hK, h, hw, zn⟩
  refine WC.seq (WC.region (?_))
  refine WL.lss? rfl rfl rfl (fun h47 => ?_) (fun h47 => ?_)
  ·
    refine WL.nil (WX.then_normal (WC.seq (WC.cond_true rfl (WC.skip (WX.then_normal (WC.seq (WC.block (?_))))))))
    refine WC.seq (WC.region (WL.move rfl rfl (?_)))
    obtain ⟨r, hr⟩ : ∃ r, rs[i]? = some r := ⟨_, List.getElem?_eq_getElem (by omega)⟩
    have hrc : cells[i]? = some r.xs := by rw [← hx, List.getElem?_map, hr]; rfl
    have hr128 : r.xs.length = 128 := layA_all s.dn b (by omega) _ (hcells ▸ List.mem_of_getElem? hrc)
    refine WL.indexT (e := erow) Tryz.underlying87 Tryz.sizeOf26 hK.outer.rsl rfl rfl ⟨hr, rfl⟩ rfl ?_
    intro bb oo hcc
    refine WL.load Tryz.isAgg26 rfl (hcc 0 _ rfl) rfl ?_
    refine WL.assign rfl rfl (WL.assign rfl rfl (WL.nil (WX.then_normal (WC.seq (WC.region (WL.move rfl rfl (WL.move rfl rfl (?_))))))))
    refine WL.move rfl rfl (?_)
    refine WL.add64 rfl rfl (by constructor <;> omega) rfl ?_
    rw [show ((addr : Int) + (i : Int)) = ((addr + i : Nat) : Int) from by omega]
    refine WL.move rfl rfl (?_)
    obtain ⟨d1, d2, d3, d4⟩ := wrT_dn s f addr cells i
    have hri : RSl (fun x => w.heap.size ≤ x ∧ x < n0) w4 eb r.ao r.cap r.xs := (hK.inner r (List.mem_of_getElem? hr)).rsl
    refine WL.call eg_42 rfl rfl (put_calls (s := wrT s f addr cells i) (by rw [d1]; exact hB) h (wrT_up hu _ _ _ _) (by rw [d1]; exact h5) (by rw [d2]; exact hf) (addr + i) (by rw [d1, d2]; omega) hri (fun x h1 h2 => by have := h1.1; omega) hr128 (by omega)) ?_
    rintro v w5 ⟨rfl, h5', k5⟩
    have z5 := k5.size
    replace hB := hB.chg k5 (fun hm => hm.elim hna (fun h9 => by omega))
    replace hK := hK.chg k5 (fun x h1 h2 h3 => h3.elim (fun h9 => by have := hA x h9; have := h2.1; omega) (fun h9 => by have := h2.2; omega))
    replace hw := hw.chg k5 (fun x h1 h2 => h2.elim id (fun h9 => by omega))
    have e5 : putS (wrT s f addr cells i) f (addr + i) r.xs = wrT s f addr cells (i + 1) := by rw [wrT, List.getD_eq_getElem?_getD, hrc]; rfl
    rw [e5] at h5'
    replace h := h5'.mono (A' := fun x => A x ∨ n0 ≤ x) (fun x hx => hx.elim id (fun h9 => .inr (by omega)))
    refine WL.assign rfl rfl (WL.nil (WX.then_normal (WC.seq (WC.region (WL.move rfl rfl (?_))))))
    refine WL.neqF rfl rfl rfl (by rfl) ?_
    refine WL.nil (WX.then_normal (WC.cond_false rfl (WC.skip (WX.block_normal (WX.then_normal (WC.region (WL.add64 rfl rfl (by omega) rfl (?_))))))))
    refine WL.move rfl rfl (WL.nil (?_))
    exact WX.loop_next (i + 1) ⟨rfl, rfl, rfl, rfl, rfl, trivial⟩ ⟨by omega, hB, hK, h, hw, by omega⟩ (by omega)
  ·
    refine WL.nil (WX.then_normal (WC.seq (WC.cond_false rfl (WC.exit (WX.then_exit (WX.then_exit (WX.block_here (?_))))))))
    refine WX.then_normal (WC.seq (WC.region (WL.assign rfl rfl (WL.nil (WX.then_normal (WC.ret (?_)))))))
    refine WX.ret1 (.inl rfl) Tryz.results17 rfl ?_
    have hil : i = cells.length := by omega
    subst hil
    exact ⟨_, rfl, rfl, h.mono (fun x hx => hx.imp id (fun h9 => by omega)), hw⟩
end Go.Proofs.YtggecdldnpildaaGreat
