import Derived.Test.YtjeldcjchipdgaaDoorQLabelSectors6
namespace Go.Proofs.YtjeldcjchipdgaaDoor
open Go.RowKit Go.HL
set_option maxRecDepth 100000

theorem comp_nil (s : V8) : comp s [] = s := comp_end (by decide)
theorem blk_at {m : List UInt8} {j q : Nat} (h : 64 * j + 64 ≤ m.length) (hq : q < 64) : m[64 * j + q]? = some (((m.drop (64 * j)).take 64).getD q 0) := by
  rw [List.getD_eq_getElem?_getD, List.getElem?_take_of_lt hq, List.getElem?_drop, List.getElem?_eq_getElem (by omega)]
  rfl
def JW (n2 bw cw : Nat) (B : List UInt8) (t : Nat) (w' : World) : Prop := RSl (fun x => n2 ≤ x) w' e64 (some ⟨bw, 0, none⟩) cw (WU B t)
theorem JW.pure {n2 bw cw : Nat} {B : List UInt8} {t : Nat} (a b : World) (h : JW n2 bw cw B t a) (k : Chg Nob a b) : JW n2 bw cw B t b := RSl.pure h k
theorem JW.rsl {n2 bw cw : Nat} {B : List UInt8} {t : Nat} {a : World} (h : JW n2 bw cw B t a) : RSl (fun x => n2 ≤ x) a e64 (some ⟨bw, 0, none⟩) cw (WU B t) := h
set_option maxHeartbeats 8000000 in
theorem sum64_calls (s : ByteArray) (w : World) (hl : s.size ≤ 4000) :
    Calls Tryd.prog 63 [.string s].toArray w (Ret fun v w' => v = .string ⟨(sumB s.data.toList).toArray⟩ ∧ Chg Nob w w') := by
  have hw := Chg.refl Nob w
  refine Calls.of_WC Tryd.func63 rfl Tryd.ntmps63 (by simp) ?_
  refine WC.seq (WC.region (WL.assign rfl rfl (WL.nil (WX.then_normal (WC.seq (WC.region (?_)))))))
  refine WL.call eg_79 rfl rfl (primes_calls _) ?_
  rintro v w1 ⟨⟨ap, cp, rfl, hp⟩, k⟩
  have zs_k := k.size
  replace hw := hw.pure k
  obtain ⟨n0, hn0⟩ : ∃ n0, n0 = w1.heap.size := ⟨_, rfl⟩
  have hp0 : RSl (fun b => b < n0) w1 e64 ap cp P64 := hp.rsl.old.mono (fun b h => by omega)
  refine WL.assign rfl rfl (WL.nil (WX.then_normal (WC.seq (WC.region (WL.assign rfl rfl (WL.assign rfl rfl (WL.nil (?_))))))))
  refine WX.then_normal (WC.seq (WC.seq (WC.region (WL.assign rfl rfl (WL.nil (WX.then_normal (WC.block (?_))))))))
  refine WC.loop (σ := Nat × (Option Addr × Nat) × (Option Addr × Nat)) (fun q => [(0, .string s), (3, .slice ap P64.length cp), (4, .slice q.2.1.1 ((UL st0).take q.1).length q.2.1.2), (5, .slice q.2.2.1 (K64.take q.1).length q.2.2.2), (6, vi q.1)])
    (fun q w' => q.1 ≤ 64 ∧ n0 ≤ w'.heap.size ∧ w.heap.size ≤ n0 ∧ RSl (fun b => b < n0) w' e64 ap cp P64 ∧ Row (fun x => n0 ≤ x ∧ ¬ Eqb q.2.2.1 x) w' 44 e64 q.2.1.1 q.2.1.2 ((UL st0).take q.1) ∧ Row (fun x => n0 ≤ x ∧ ¬ Eqb q.2.1.1 x) w' 44 e64 q.2.2.1 q.2.2.2 (K64.take q.1) ∧ Chg Nob w w') (fun q => 64 - q.1)
    (0, (none, 0), (none, 0)) ⟨rfl, rfl, rfl, rfl, rfl, trivial⟩ ⟨Nat.zero_le _, Nat.le_of_eq hn0, by have := hw.size; omega, hp0, Row.nil _ _ _ _, Row.nil _ _ _ _, hw⟩ ?_
  clear hp hp0 hw
  rintro ⟨i, ⟨ah, ch⟩, ⟨ak, ck⟩⟩ w2 ⟨hi, hn2, hwn, hp, hh, hk, hw⟩
  dsimp only at hi hn2 hp hh hk hw ⊢
  refine WC.seq (WC.seq (WC.region (WL.move rfl rfl (?_))))
  refine WL.lss? rfl rfl rfl (fun h24 => ?_) (fun h24 => ?_)
  ·
    refine WL.nil (WX.then_normal (WC.cond_true rfl (WC.skip (WX.then_normal (WC.seq (WC.block (WC.seq (?_))))))))
    refine WC.region (WL.move rfl rfl (WL.move rfl rfl (WL.move rfl rfl (?_))))
    have hx := getD_at64 (xs := P64) (i := i) (by show i < 64; omega)
    have hrk : rootF (P64.getD i 0) true = (K256.getD i 0).toUInt64 := roots_k ⟨i, by omega⟩
    have hk1 : K64.take (i + 1) = K64.take i ++ [(K256.getD i 0).toUInt64] := by
      rw [List.take_add_one, show K64[i]? = some (K256.getD i 0).toUInt64 from map_at _ (getD_at (by show i < 64; omega))]
      rfl
    have hkl : (K64.take i).length ≤ 64 := by simp; omega
    have hhl : ((UL st0).take i).length ≤ 64 := by simp; omega
    refine WL.indexT Tryd.underlying133 Tryd.sizeOf44 hp rfl rfl ⟨hx, rfl⟩ rfl ?_
    intro b_1 o_1 hc_1
    refine WL.load Tryd.isAgg44 rfl (hc_1 0 _ rfl) rfl (?_)
    refine WL.call eg_80 rfl rfl (root_calls _ true _) ?_
    rintro v w3 ⟨rfl, k⟩
    rw [hrk]
    have zs_k := k.size
    replace hp := hp.pure k
    replace hh := hh.pure k
    replace hk := hk.pure k
    replace hw := hw.pure k
    refine WL.build (e := e64) [(K256.getD i 0).toUInt64] Tryd.underlying133 Tryd.sizeOf44 Tryd.zeroValue44 rfl rfl rfl (by simp [Value.cells] <;> rfl) (by decide) rfl ?_
    intro a_hn w_hn hn l_hn z_hn k_hn
    have zs_k_hn := k_hn.size
    replace hp := hp.pure k_hn
    replace hh := hh.pure k_hn
    replace hk := hk.pure k_hn
    replace hw := hw.pure k_hn
    refine WL.append (e := e64) info_44 rfl Tryd.underlying133 rfl rfl hk (hn.rsl.src Tryd.underlying133) (by constructor <;> (simp only [List.length_cons, List.length_nil]; omega)) (fresh_of hh (by omega)) rfl ?_
    intro ak2 ck2 wk hk2 gk nk
    have zk := gk.chg.size
    have hh2 := two_grow hh gk
    replace hp := hp.chg gk.chg (fun b h1 h2 h3 => by have h4 := h3.2.1; omega)
    replace hw := hw.chg gk.chg (fun x h1 h2 => by have h4 := h2.2.1; omega)
    rw [← hk1] at hk2 ⊢
    refine WL.assign rfl rfl (WL.nil (WX.then_normal (WC.seq (WC.region (WL.move rfl rfl (?_))))))
    refine WL.lss? rfl rfl rfl (fun h36 => ?_) (fun h36 => ?_)
    ·
      refine WL.nil (WX.then_normal (WC.cond_true rfl (WC.region (WL.move rfl rfl (WL.move rfl rfl (WL.move rfl rfl (?_)))))))
      have hx2 := getD_at64 (xs := P64) (i := i) (by show i < 64; omega)
      have hrh : rootF (P64.getD i 0) false = (st0.list.getD i 0).toUInt64 := roots_h ⟨i, by omega⟩
      have hh1 : (UL st0).take (i + 1) = (UL st0).take i ++ [(st0.list.getD i 0).toUInt64] := by
        rw [List.take_add_one, show (UL st0)[i]? = some (st0.list.getD i 0).toUInt64 from map_at _ (getD_at (by show i < 8; omega))]
        rfl
      refine WL.indexT Tryd.underlying133 Tryd.sizeOf44 hp rfl rfl ⟨hx2, rfl⟩ rfl ?_
      intro b_2 o_2 hc_2
      refine WL.load Tryd.isAgg44 rfl (hc_2 0 _ rfl) rfl (?_)
      refine WL.call eg_80 rfl rfl (root_calls _ false _) ?_
      rintro v w3 ⟨rfl, k⟩
      rw [hrh]
      have zs_k := k.size
      replace hp := hp.pure k
      replace hw := hw.pure k
      replace hk2 := hk2.pure k
      replace hh2 := hh2.pure k
      refine WL.build (e := e64) [(st0.list.getD i 0).toUInt64] Tryd.underlying133 Tryd.sizeOf44 Tryd.zeroValue44 rfl rfl rfl (by simp [Value.cells] <;> rfl) (by decide) rfl ?_
      intro a_hm w_hm hm l_hm z_hm k_hm
      have zs_k_hm := k_hm.size
      replace hp := hp.pure k_hm
      replace hw := hw.pure k_hm
      replace hk2 := hk2.pure k_hm
      replace hh2 := hh2.pure k_hm
      refine WL.append (e := e64) info_44 rfl Tryd.underlying133 rfl rfl hh2 (hm.rsl.src Tryd.underlying133) (by constructor <;> (simp only [List.length_cons, List.length_nil]; omega)) (fresh_of hk2 (by omega)) rfl ?_
      intro ah3 ch3 wh hh3 gh nh
      have zh := gh.chg.size
      have hk3 := two_grow hk2 gh
      replace hp := hp.chg gh.chg (fun b h1 h2 h3 => by have h4 := h3.2.1; omega)
      replace hw := hw.chg gh.chg (fun x h1 h2 => by have h4 := h2.2.1; omega)
      rw [← hh1] at hh3 ⊢
      refine WL.assign rfl rfl (WL.nil (WX.block_normal (WX.then_normal (WC.region (WL.move rfl rfl (WL.add64 rfl rfl (by omega) rfl (WL.assign rfl rfl (?_))))))))
      refine WL.nil (?_)
      first
        | (refine WX.loop_next (i + 1, (ah3, ch3), (ak2, ck2)) ⟨rfl, rfl, rfl, rfl, rfl, trivial⟩ ⟨by dsimp only; omega, by omega, hwn, hp, hh3, hk3, hw⟩ (by show _ - _ < _ - _; omega))
        | (have h8 : (UL st0).take i = (UL st0).take (i + 1) := by rw [List.take_of_length_le (by show 8 ≤ i; omega), List.take_of_length_le (by show 8 ≤ i + 1; omega)]
           rw [h8] at hh2
           refine WX.loop_next (i + 1, (ah, ch), (ak2, ck2)) ⟨rfl, rfl, by dsimp only; rw [← h8]; rfl, rfl, rfl, trivial⟩ ⟨by dsimp only; omega, by omega, hwn, hp, hh2, hk2, hw⟩ (by show _ - _ < _ - _; omega))
        | (refine WX.loop_next (i + 1) ⟨rfl, rfl, rfl, rfl, rfl, rfl, rfl, rfl, trivial⟩ ⟨by omega, hn7, hv, hh, hk, hm, hw⟩ (by show _ - _ < _ - _; omega))
        | (have e1 := WU_next B t
           refine WX.loop_next (t + 1, a_hv2, c_hv2) ⟨rfl, rfl, rfl, rfl, ?_, rfl, trivial⟩ ⟨by dsimp only; omega, by omega, ?_, hh, hk, hm, hw⟩ (by show _ - _ < _ - _; omega)
           ·
             dsimp only; rw [e1]; rfl
           ·
             dsimp only; rw [e1]; exact hv2)
        | (have e1 : UL (roundsN WS V0 (r + 1)) = NL.set 4 ((V.d.toUInt64 + T1r V kt wt) &&& 4294967295) := by
             rw [roundsN, ← hV, ← hwt, ← hkt, round_up, hNL]
             rfl
           refine WX.loop_next (r + 1, some ⟨gB, 0, none⟩, c_hB) ⟨rfl, rfl, rfl, rfl, rfl, ?_, rfl, trivial⟩ ⟨by dsimp only; omega, by omega, hws, ?_, hh, hk, hm, hw⟩ (by show _ - _ < _ - _; omega)
           ·
             dsimp only; rw [e1, List.length_set]; rfl
           ·
             dsimp only; rw [e1]; exact hB)
        | (refine WX.loop_next (i + 1) ⟨?_, rfl, rfl, rfl, rfl, rfl, trivial⟩ ⟨by omega, by omega, hv, hh, hk, hm, hw⟩ (by show _ - _ < _ - _; omega)
           show some (Value.slice (some ⟨gh, 0, none⟩) (List.map UInt32.toUInt64 (addTo V0 V i)).length ch) = some (Value.slice (some ⟨gh, 0, none⟩) (List.map UInt32.toUInt64 (addTo V0 V (i + 1))).length ch)
           rw [hal2, List.length_map, addTo_len V0 V (i + 1) (by omega)])
        | (have hi8 : i = 8 := by omega
           subst hi8
           obtain ⟨V1, hV1⟩ : ∃ V1, V1 = mix V0 B := ⟨_, rfl⟩
           have e1 : (addTo V0 V 8).map UInt32.toUInt64 = UL V1 := by
             rw [hV1, mix_eq, ← hWS, ← hV]
             rfl
           rw [e1] at hh ⊢
           have e2 : ((64 * (j + 1) : Nat) : Int) = ((64 * j : Nat) : Int) + 64 := by omega
           refine WX.loop_next (V1, j + 1) ⟨rfl, rfl, rfl, ?_, trivial⟩ ⟨by dsimp only; omega, by omega, ?_, hh, hk, hm, hw⟩ (by show M.length - 64 * (j + 1) < M.length - 64 * j; omega)
           ·
             dsimp only; rw [e2]; rfl
           ·
             dsimp only
             rw [← hcomp, comp_more (s := V0) (ms := M.drop (64 * j)) (by rw [List.length_drop]; omega), ← eB, ← hV1, List.drop_drop]
             rfl)
        | (have e1 : (V0.list.take (i + 1)).flatMap bytes4 = (V0.list.take i).flatMap bytes4 ++ bytes4 (V0.list.getD i 0) := by
             rw [List.take_add_one, fx0, List.flatMap_append]
             simp
           refine WX.loop_next (i + 1, a_ho2, c_ho2) ⟨rfl, ?_, rfl, trivial⟩ ⟨by dsimp only; omega, by omega, ?_, hh, hw⟩ (by show _ - _ < _ - _; omega)
           ·
             dsimp only; rw [e1]; rfl
           ·
             dsimp only; rw [e1]; exact ho2)
    ·
      refine WL.nil (WX.then_normal (WC.cond_false rfl (WC.skip (WX.block_normal (WX.then_normal (WC.region (WL.move rfl rfl (?_))))))))
      refine WL.add64 rfl rfl (by omega) rfl (WL.assign rfl rfl (WL.nil (?_)))
      first
        | (refine WX.loop_next (i + 1, (ah3, ch3), (ak2, ck2)) ⟨rfl, rfl, rfl, rfl, rfl, trivial⟩ ⟨by dsimp only; omega, by omega, hwn, hp, hh3, hk3, hw⟩ (by show _ - _ < _ - _; omega))
        | (have h8 : (UL st0).take i = (UL st0).take (i + 1) := by rw [List.take_of_length_le (by show 8 ≤ i; omega), List.take_of_length_le (by show 8 ≤ i + 1; omega)]
           rw [h8] at hh2
           refine WX.loop_next (i + 1, (ah, ch), (ak2, ck2)) ⟨rfl, rfl, by dsimp only; rw [← h8]; rfl, rfl, rfl, trivial⟩ ⟨by dsimp only; omega, by omega, hwn, hp, hh2, hk2, hw⟩ (by show _ - _ < _ - _; omega))
        | (refine WX.loop_next (i + 1) ⟨rfl, rfl, rfl, rfl, rfl, rfl, rfl, rfl, trivial⟩ ⟨by omega, hn7, hv, hh, hk, hm, hw⟩ (by show _ - _ < _ - _; omega))
        | (have e1 := WU_next B t
           refine WX.loop_next (t + 1, a_hv2, c_hv2) ⟨rfl, rfl, rfl, rfl, ?_, rfl, trivial⟩ ⟨by dsimp only; omega, by omega, ?_, hh, hk, hm, hw⟩ (by show _ - _ < _ - _; omega)
           ·
             dsimp only; rw [e1]; rfl
           ·
             dsimp only; rw [e1]; exact hv2)
        | (have e1 : UL (roundsN WS V0 (r + 1)) = NL.set 4 ((V.d.toUInt64 + T1r V kt wt) &&& 4294967295) := by
             rw [roundsN, ← hV, ← hwt, ← hkt, round_up, hNL]
             rfl
           refine WX.loop_next (r + 1, some ⟨gB, 0, none⟩, c_hB) ⟨rfl, rfl, rfl, rfl, rfl, ?_, rfl, trivial⟩ ⟨by dsimp only; omega, by omega, hws, ?_, hh, hk, hm, hw⟩ (by show _ - _ < _ - _; omega)
           ·
             dsimp only; rw [e1, List.length_set]; rfl
           ·
             dsimp only; rw [e1]; exact hB)
        | (refine WX.loop_next (i + 1) ⟨?_, rfl, rfl, rfl, rfl, rfl, trivial⟩ ⟨by omega, by omega, hv, hh, hk, hm, hw⟩ (by show _ - _ < _ - _; omega)
           show some (Value.slice (some ⟨gh, 0, none⟩) (List.map UInt32.toUInt64 (addTo V0 V i)).length ch) = some (Value.slice (some ⟨gh, 0, none⟩) (List.map UInt32.toUInt64 (addTo V0 V (i + 1))).length ch)
           rw [hal2, List.length_map, addTo_len V0 V (i + 1) (by omega)])
        | (have hi8 : i = 8 := by omega
           subst hi8
           obtain ⟨V1, hV1⟩ : ∃ V1, V1 = mix V0 B := ⟨_, rfl⟩
           have e1 : (addTo V0 V 8).map UInt32.toUInt64 = UL V1 := by
             rw [hV1, mix_eq, ← hWS, ← hV]
             rfl
           rw [e1] at hh ⊢
           have e2 : ((64 * (j + 1) : Nat) : Int) = ((64 * j : Nat) : Int) + 64 := by omega
           refine WX.loop_next (V1, j + 1) ⟨rfl, rfl, rfl, ?_, trivial⟩ ⟨by dsimp only; omega, by omega, ?_, hh, hk, hm, hw⟩ (by show M.length - 64 * (j + 1) < M.length - 64 * j; omega)
           ·
             dsimp only; rw [e2]; rfl
           ·
             dsimp only
             rw [← hcomp, comp_more (s := V0) (ms := M.drop (64 * j)) (by rw [List.length_drop]; omega), ← eB, ← hV1, List.drop_drop]
             rfl)
        | (have e1 : (V0.list.take (i + 1)).flatMap bytes4 = (V0.list.take i).flatMap bytes4 ++ bytes4 (V0.list.getD i 0) := by
             rw [List.take_add_one, fx0, List.flatMap_append]
             simp
           refine WX.loop_next (i + 1, a_ho2, c_ho2) ⟨rfl, ?_, rfl, trivial⟩ ⟨by dsimp only; omega, by omega, ?_, hh, hw⟩ (by show _ - _ < _ - _; omega)
           ·
             dsimp only; rw [e1]; rfl
           ·
             dsimp only; rw [e1]; exact ho2)
  ·
    refine WL.nil (WX.then_normal (WC.cond_false rfl (WC.exit (WX.then_exit (WX.then_exit (WX.block_here (WX.then_normal (?_))))))))
    refine WC.seq (WC.region (WL.move rfl rfl (?_)))
    have h64 : i = 64 := by omega
    subst h64
    rw [show K64.take 64 = K64 from rfl] at hk ⊢
    rw [show (UL st0).take 64 = UL st0 from rfl] at hh ⊢
    obtain ⟨gh, rfl⟩ := hh.place0 (j := 0) (by show 0 < 8; decide)
    have hgh := hh.lt.at_ _ rfl
    dsimp only at hgh
    obtain ⟨n1, hn1⟩ : ∃ n1, n1 = w2.heap.size := ⟨_, rfl⟩
    have hk1 : RSl (fun b => b < n1 ∧ b ≠ gh) w2 e64 ak ck K64 := hk.lt.rsl.mono (fun b hb => ⟨by omega, fun e => hb.1.2 ⟨_, rfl, e⟩⟩)
    have hh1 : Row (fun b => b = gh) w2 44 e64 (some ⟨gh, 0, none⟩) ch (UL st0) := ⟨fun a ea => by injection ea with ea; subst ea; rfl, hh.own⟩
    have hgn : gh < n1 := by omega
    have hgw : w.heap.size ≤ gh := by omega
    clear hk hh hp
    refine WL.call eg_81 rfl rfl (message_calls _ _ hl) ?_
    rintro v w4 ⟨⟨am, cm, rfl, hm⟩, k⟩
    have zs_k := k.size
    replace hw := hw.pure k
    replace hk1 := hk1.pure k
    replace hh1 := hh1.pure k
    have hml := padded_len s.data.toList
    have hml2 : (padded s.data.toList).length ≤ 4200 := by
      have : s.data.toList.length = s.size := by simp
      simp [padded, be8]
      omega
    obtain ⟨M, eM⟩ : ∃ M, M = padded s.data.toList := ⟨_, rfl⟩
    rw [← eM] at hm hml hml2 ⊢
    obtain ⟨n2, hn2'⟩ : ∃ n2, n2 = w4.heap.size := ⟨_, rfl⟩
    have hk0 : RSl (fun b => b < n2 ∧ b ≠ gh) w4 e64 ak ck K64 := hk1.mono (fun b hb => ⟨by omega, hb.2⟩)
    have hm0 : RSl (fun b => b < n2 ∧ b ≠ gh) w4 eb am cm M := hm.lt.rsl.mono (fun b hb => by constructor <;> omega)
    refine WL.assign rfl rfl (WL.nil (WX.then_normal (WC.seq (WC.seq (WC.region (WL.assign rfl rfl (WL.nil (?_))))))))
    refine WX.then_normal (WC.block (?_))
    refine WC.loop (σ := V8 × Nat) (fun q => [(4, .slice (some ⟨gh, 0, none⟩) (UL q.1).length ch), (5, .slice ak K64.length ck), (7, .slice am M.length cm), (8, vi ((64 * q.2 : Nat) : Int))])
      (fun q w' => 64 * q.2 ≤ M.length ∧ n2 ≤ w'.heap.size ∧ comp q.1 (M.drop (64 * q.2)) = comp st0 M ∧ Row (fun b => b = gh) w' 44 e64 (some ⟨gh, 0, none⟩) ch (UL q.1) ∧ RSl (fun b => b < n2 ∧ b ≠ gh) w' e64 ak ck K64 ∧ RSl (fun b => b < n2 ∧ b ≠ gh) w' eb am cm M ∧ Chg Nob w w') (fun q => M.length - 64 * q.2)
      (st0, 0) ⟨rfl, rfl, rfl, rfl, trivial⟩ ⟨Nat.zero_le _, by omega, rfl, hh1, hk0, hm0, hw⟩ ?_
    have hgn2 : gh < n2 := by omega
    clear hh1 hk1 hk0 hm0 hm hw
    rintro ⟨V0, j⟩ w5 ⟨hj, hn5, hcomp, hh, hk, hm, hw⟩
    dsimp only at hj hcomp hh hk hm hw ⊢
    refine WC.seq (WC.seq (WC.region (WL.move rfl rfl (WL.move rfl rfl (WL.len Tryd.underlying26 rfl rfl (?_))))))
    refine WL.lss? rfl rfl rfl (fun h50 => ?_) (fun h50 => ?_)
    ·
      refine WL.nil (WX.then_normal (WC.cond_true rfl (WC.skip (WX.then_normal (WC.seq (WC.block (WC.seq (?_))))))))
      refine WC.region (WL.assign rfl rfl (WL.nil (WX.then_normal (WC.seq (WC.seq (WC.region (WL.assign rfl rfl (?_))))))))
      refine WL.nil (WX.then_normal (WC.block (?_)))
      have hj64 : 64 * j + 64 ≤ M.length := by omega
      obtain ⟨B, eB⟩ : ∃ B, B = (M.drop (64 * j)).take 64 := ⟨_, rfl⟩
      refine WC.loop (σ := Nat × Option Addr × Nat) (fun q => [(4, .slice (some ⟨gh, 0, none⟩) (UL V0).length ch), (5, .slice ak K64.length ck), (7, .slice am M.length cm), (8, vi ((64 * j : Nat) : Int)), (9, .slice q.2.1 (WU B q.1).length q.2.2), (10, vi q.1)])
        (fun q w' => q.1 ≤ 64 ∧ n2 ≤ w'.heap.size ∧ Row (fun x => n2 ≤ x) w' 44 e64 q.2.1 q.2.2 (WU B q.1) ∧ Row (fun b => b = gh) w' 44 e64 (some ⟨gh, 0, none⟩) ch (UL V0) ∧ RSl (fun b => b < n2 ∧ b ≠ gh) w' e64 ak ck K64 ∧ RSl (fun b => b < n2 ∧ b ≠ gh) w' eb am cm M ∧ Chg Nob w w') (fun q => 64 - q.1)
        (0, none, 0) ⟨rfl, rfl, rfl, rfl, rfl, rfl, trivial⟩ ⟨Nat.zero_le _, hn5, Row.nil _ _ _ _, hh, hk, hm, hw⟩ ?_
      clear hh hk hm hw
      rintro ⟨t, aw, cw⟩ w6 ⟨ht, hn6, hv, hh, hk, hm, hw⟩
      dsimp only at ht hn6 hv hh hk hm hw ⊢
      have hwl := WU_len B t
      refine WC.seq (WC.seq (WC.region (WL.move rfl rfl (?_))))
      refine WL.lss? rfl rfl rfl (fun h54 => ?_) (fun h54 => ?_)
      ·
        refine WL.nil (WX.then_normal (WC.cond_true rfl (WC.skip (WX.then_normal (WC.seq (WC.block (WC.seq (?_))))))))
        refine WC.seq (WC.region (WL.move rfl rfl (?_)))
        refine WL.lss? rfl rfl rfl (fun h58 => ?_) (fun h58 => ?_)
        ·
          refine WL.nil (WX.then_normal (WC.cond_true rfl (WC.seq (WC.region (WL.assign rfl rfl (WL.nil (WX.then_normal (?_))))))))
          refine WC.seq (WC.seq (WC.region (WL.assign rfl rfl (WL.nil (WX.then_normal (WC.block (?_)))))))
          refine WC.loop (σ := Nat) (fun i => [(4, .slice (some ⟨gh, 0, none⟩) (UL V0).length ch), (5, .slice ak K64.length ck), (7, .slice am M.length cm), (8, vi ((64 * j : Nat) : Int)), (9, .slice aw (WU B t).length cw), (10, vi t), (11, v64 (accB B t i)), (12, vi i)])
            (fun i w' => i ≤ 4 ∧ n2 ≤ w'.heap.size ∧ Row (fun x => n2 ≤ x) w' 44 e64 aw cw (WU B t) ∧ Row (fun b => b = gh) w' 44 e64 (some ⟨gh, 0, none⟩) ch (UL V0) ∧ RSl (fun b => b < n2 ∧ b ≠ gh) w' e64 ak ck K64 ∧ RSl (fun b => b < n2 ∧ b ≠ gh) w' eb am cm M ∧ Chg Nob w w') (fun i => 4 - i)
            0 ⟨rfl, rfl, rfl, rfl, rfl, rfl, rfl, rfl, trivial⟩ ⟨Nat.zero_le _, hn6, hv, hh, hk, hm, hw⟩ ?_
          clear hv hh hk hm hw
          rintro i w7 ⟨hi, hn7, hv, hh, hk, hm, hw⟩
          refine WC.seq (WC.seq (WC.region (WL.move rfl rfl (?_))))
          refine WL.lss? rfl rfl rfl (fun h60 => ?_) (fun h60 => ?_)
          ·
            refine WL.nil (WX.then_normal (WC.cond_true rfl (WC.skip (WX.then_normal (WC.seq (WC.block (WC.region (?_))))))))
            refine WL.move rfl rfl (WL.num rfl rfl (n_mul64 _ _ _ 256) rfl (WL.move rfl rfl (WL.move rfl rfl (WL.move rfl rfl (WL.mul64 rfl rfl (by omega) rfl (WL.add64 rfl rfl (by omega) rfl (WL.move rfl rfl (?_))))))))
            refine WL.add64 rfl rfl (by omega) rfl (?_)
            have hby := blk_at (m := M) (j := j) (q := 4 * t + i) hj64 (by omega)
            rw [← eB] at hby
            refine WL.indexT Tryd.underlying26 Tryd.sizeOf5 hm rfl rfl ⟨hby, (by omega)⟩ rfl ?_
            intro b_1 o_1 hc_1
            refine WL.load Tryd.isAgg5 rfl (hc_1 0 _ rfl) rfl (WL.c_u8_u64 Tryd.underlying5 Tryd.underlying44 rfl rfl (WL.num rfl rfl (n_add64 _ _ _ _) rfl (WL.assign rfl rfl (WL.nil (WX.block_normal (WX.then_normal (WC.region (?_))))))))
            refine WL.move rfl rfl (WL.add64 rfl rfl (by omega) rfl (WL.assign rfl rfl (WL.nil (?_))))
            first
              | (refine WX.loop_next (i + 1, (ah3, ch3), (ak2, ck2)) ⟨rfl, rfl, rfl, rfl, rfl, trivial⟩ ⟨by dsimp only; omega, by omega, hwn, hp, hh3, hk3, hw⟩ (by show _ - _ < _ - _; omega))
              | (have h8 : (UL st0).take i = (UL st0).take (i + 1) := by rw [List.take_of_length_le (by show 8 ≤ i; omega), List.take_of_length_le (by show 8 ≤ i + 1; omega)]
                 rw [h8] at hh2
                 refine WX.loop_next (i + 1, (ah, ch), (ak2, ck2)) ⟨rfl, rfl, by dsimp only; rw [← h8]; rfl, rfl, rfl, trivial⟩ ⟨by dsimp only; omega, by omega, hwn, hp, hh2, hk2, hw⟩ (by show _ - _ < _ - _; omega))
              | (refine WX.loop_next (i + 1) ⟨rfl, rfl, rfl, rfl, rfl, rfl, rfl, rfl, trivial⟩ ⟨by omega, hn7, hv, hh, hk, hm, hw⟩ (by show _ - _ < _ - _; omega))
              | (have e1 := WU_next B t
                 refine WX.loop_next (t + 1, a_hv2, c_hv2) ⟨rfl, rfl, rfl, rfl, ?_, rfl, trivial⟩ ⟨by dsimp only; omega, by omega, ?_, hh, hk, hm, hw⟩ (by show _ - _ < _ - _; omega)
                 ·
                   dsimp only; rw [e1]; rfl
                 ·
                   dsimp only; rw [e1]; exact hv2)
              | (have e1 : UL (roundsN WS V0 (r + 1)) = NL.set 4 ((V.d.toUInt64 + T1r V kt wt) &&& 4294967295) := by
                   rw [roundsN, ← hV, ← hwt, ← hkt, round_up, hNL]
                   rfl
                 refine WX.loop_next (r + 1, some ⟨gB, 0, none⟩, c_hB) ⟨rfl, rfl, rfl, rfl, rfl, ?_, rfl, trivial⟩ ⟨by dsimp only; omega, by omega, hws, ?_, hh, hk, hm, hw⟩ (by show _ - _ < _ - _; omega)
                 ·
                   dsimp only; rw [e1, List.length_set]; rfl
                 ·
                   dsimp only; rw [e1]; exact hB)
              | (refine WX.loop_next (i + 1) ⟨?_, rfl, rfl, rfl, rfl, rfl, trivial⟩ ⟨by omega, by omega, hv, hh, hk, hm, hw⟩ (by show _ - _ < _ - _; omega)
                 show some (Value.slice (some ⟨gh, 0, none⟩) (List.map UInt32.toUInt64 (addTo V0 V i)).length ch) = some (Value.slice (some ⟨gh, 0, none⟩) (List.map UInt32.toUInt64 (addTo V0 V (i + 1))).length ch)
                 rw [hal2, List.length_map, addTo_len V0 V (i + 1) (by omega)])
              | (have hi8 : i = 8 := by omega
                 subst hi8
                 obtain ⟨V1, hV1⟩ : ∃ V1, V1 = mix V0 B := ⟨_, rfl⟩
                 have e1 : (addTo V0 V 8).map UInt32.toUInt64 = UL V1 := by
                   rw [hV1, mix_eq, ← hWS, ← hV]
                   rfl
                 rw [e1] at hh ⊢
                 have e2 : ((64 * (j + 1) : Nat) : Int) = ((64 * j : Nat) : Int) + 64 := by omega
                 refine WX.loop_next (V1, j + 1) ⟨rfl, rfl, rfl, ?_, trivial⟩ ⟨by dsimp only; omega, by omega, ?_, hh, hk, hm, hw⟩ (by show M.length - 64 * (j + 1) < M.length - 64 * j; omega)
                 ·
                   dsimp only; rw [e2]; rfl
                 ·
                   dsimp only
                   rw [← hcomp, comp_more (s := V0) (ms := M.drop (64 * j)) (by rw [List.length_drop]; omega), ← eB, ← hV1, List.drop_drop]
                   rfl)
              | (have e1 : (V0.list.take (i + 1)).flatMap bytes4 = (V0.list.take i).flatMap bytes4 ++ bytes4 (V0.list.getD i 0) := by
                   rw [List.take_add_one, fx0, List.flatMap_append]
                   simp
                 refine WX.loop_next (i + 1, a_ho2, c_ho2) ⟨rfl, ?_, rfl, trivial⟩ ⟨by dsimp only; omega, by omega, ?_, hh, hw⟩ (by show _ - _ < _ - _; omega)
                 ·
                   dsimp only; rw [e1]; rfl
                 ·
                   dsimp only; rw [e1]; exact ho2)
          ·
            refine WL.nil (WX.then_normal (WC.cond_false rfl (WC.exit (WX.then_exit (WX.then_exit (WX.block_here (WX.then_normal (?_))))))))
            refine WC.seq (WC.region (WL.move rfl rfl (WL.move rfl rfl (?_))))
            have hi4 : i = 4 := by omega
            rw [hi4, accB_word, ← nextW_small (b := B) (ws := sch B t) (by omega)]
            refine WL.build (e := e64) [(nextW B (sch B t) t).toUInt64] Tryd.underlying133 Tryd.sizeOf44 Tryd.zeroValue44 rfl rfl rfl (by simp [Value.cells] <;> rfl) (by decide) rfl ?_
            intro a_hn w_hn hn l_hn z_hn k_hn
            have zs_k_hn := k_hn.size
            replace hv := hv.pure k_hn
            replace hh := hh.pure k_hn
            replace hk := hk.pure k_hn
            replace hm := hm.pure k_hn
            replace hw := hw.pure k_hn
            refine WL.append (e := e64) info_44 rfl Tryd.underlying133 rfl rfl hv (hn.rsl.src Tryd.underlying133) (by (try simp only [List.length_append, List.length_cons, List.length_nil] at *); omega) (by intro b hb; first | (apply hS; omega) | ((try dsimp only); omega)) rfl ?_
            intro a_hv2 c_hv2 w_hv2 hv2 g_hv2 n_hv2
            have z_hv2 := g_hv2.chg.size
            have zs_g_hv2_chg := g_hv2.chg.size
            replace hh := hh.chg g_hv2.chg (by intros; exfalso; (try dsimp only at *); omega)
            replace hk := hk.chg g_hv2.chg (by intros; exfalso; (try dsimp only at *); omega)
            replace hm := hm.chg g_hv2.chg (by intros; exfalso; (try dsimp only at *); omega)
            replace hw := hw.chg g_hv2.chg (by intros; exfalso; (try dsimp only at *); omega)
            refine WL.assign rfl rfl (WL.nil (WX.then_normal (WC.exit (WX.then_exit (WX.block_here (WX.then_normal (WC.region (?_))))))))
            refine WL.move rfl rfl (WL.add64 rfl rfl (by omega) rfl (WL.assign rfl rfl (WL.nil (?_))))
            first
              | (refine WX.loop_next (i + 1, (ah3, ch3), (ak2, ck2)) ⟨rfl, rfl, rfl, rfl, rfl, trivial⟩ ⟨by dsimp only; omega, by omega, hwn, hp, hh3, hk3, hw⟩ (by show _ - _ < _ - _; omega))
              | (have h8 : (UL st0).take i = (UL st0).take (i + 1) := by rw [List.take_of_length_le (by show 8 ≤ i; omega), List.take_of_length_le (by show 8 ≤ i + 1; omega)]
                 rw [h8] at hh2
                 refine WX.loop_next (i + 1, (ah, ch), (ak2, ck2)) ⟨rfl, rfl, by dsimp only; rw [← h8]; rfl, rfl, rfl, trivial⟩ ⟨by dsimp only; omega, by omega, hwn, hp, hh2, hk2, hw⟩ (by show _ - _ < _ - _; omega))
              | (refine WX.loop_next (i + 1) ⟨rfl, rfl, rfl, rfl, rfl, rfl, rfl, rfl, trivial⟩ ⟨by omega, hn7, hv, hh, hk, hm, hw⟩ (by show _ - _ < _ - _; omega))
              | (have e1 := WU_next B t
                 refine WX.loop_next (t + 1, a_hv2, c_hv2) ⟨rfl, rfl, rfl, rfl, ?_, rfl, trivial⟩ ⟨by dsimp only; omega, by omega, ?_, hh, hk, hm, hw⟩ (by show _ - _ < _ - _; omega)
                 ·
                   dsimp only; rw [e1]; rfl
                 ·
                   dsimp only; rw [e1]; exact hv2)
              | (have e1 : UL (roundsN WS V0 (r + 1)) = NL.set 4 ((V.d.toUInt64 + T1r V kt wt) &&& 4294967295) := by
                   rw [roundsN, ← hV, ← hwt, ← hkt, round_up, hNL]
                   rfl
                 refine WX.loop_next (r + 1, some ⟨gB, 0, none⟩, c_hB) ⟨rfl, rfl, rfl, rfl, rfl, ?_, rfl, trivial⟩ ⟨by dsimp only; omega, by omega, hws, ?_, hh, hk, hm, hw⟩ (by show _ - _ < _ - _; omega)
                 ·
                   dsimp only; rw [e1, List.length_set]; rfl
                 ·
                   dsimp only; rw [e1]; exact hB)
              | (refine WX.loop_next (i + 1) ⟨?_, rfl, rfl, rfl, rfl, rfl, trivial⟩ ⟨by omega, by omega, hv, hh, hk, hm, hw⟩ (by show _ - _ < _ - _; omega)
                 show some (Value.slice (some ⟨gh, 0, none⟩) (List.map UInt32.toUInt64 (addTo V0 V i)).length ch) = some (Value.slice (some ⟨gh, 0, none⟩) (List.map UInt32.toUInt64 (addTo V0 V (i + 1))).length ch)
                 rw [hal2, List.length_map, addTo_len V0 V (i + 1) (by omega)])
              | (have hi8 : i = 8 := by omega
                 subst hi8
                 obtain ⟨V1, hV1⟩ : ∃ V1, V1 = mix V0 B := ⟨_, rfl⟩
                 have e1 : (addTo V0 V 8).map UInt32.toUInt64 = UL V1 := by
                   rw [hV1, mix_eq, ← hWS, ← hV]
                   rfl
                 rw [e1] at hh ⊢
                 have e2 : ((64 * (j + 1) : Nat) : Int) = ((64 * j : Nat) : Int) + 64 := by omega
                 refine WX.loop_next (V1, j + 1) ⟨rfl, rfl, rfl, ?_, trivial⟩ ⟨by dsimp only; omega, by omega, ?_, hh, hk, hm, hw⟩ (by show M.length - 64 * (j + 1) < M.length - 64 * j; omega)
                 ·
                   dsimp only; rw [e2]; rfl
                 ·
                   dsimp only
                   rw [← hcomp, comp_more (s := V0) (ms := M.drop (64 * j)) (by rw [List.length_drop]; omega), ← eB, ← hV1, List.drop_drop]
                   rfl)
              | (have e1 : (V0.list.take (i + 1)).flatMap bytes4 = (V0.list.take i).flatMap bytes4 ++ bytes4 (V0.list.getD i 0) := by
                   rw [List.take_add_one, fx0, List.flatMap_append]
                   simp
                 refine WX.loop_next (i + 1, a_ho2, c_ho2) ⟨rfl, ?_, rfl, trivial⟩ ⟨by dsimp only; omega, by omega, ?_, hh, hw⟩ (by show _ - _ < _ - _; omega)
                 ·
                   dsimp only; rw [e1]; rfl
                 ·
                   dsimp only; rw [e1]; exact ho2)
        ·
          refine WL.nil (WX.then_normal (WC.cond_false rfl (WC.skip (WX.then_normal (WC.seq (?_))))))
          have f15 := WU_at (b := B) (t := t) (i := t - 15) (by omega)
          have f2 := WU_at (b := B) (t := t) (i := t - 2) (by omega)
          have f16 := WU_at (b := B) (t := t) (i := t - 16) (by omega)
          have f7 := WU_at (b := B) (t := t) (i := t - 7) (by omega)
          obtain ⟨bw, rfl⟩ := hv.place0 (j := t - 15) (by omega)
          have hbw := hv.at_ _ rfl
          dsimp only at hbw
          refine WC.draw (Nob) [0, 1, 2, 3, 4, 5, 6, 7, 8, 9, 10, 11, 12, 13, 14, 15, 16, 17, 18, 19, 20] [] mixed rfl rfl (fun wd_1 kd_1 zd_1 => ?_)
          have zs_kd_1 := kd_1.size
          replace hv := hv.pure kd_1
          replace hh := hh.pure kd_1
          replace hk := hk.pure kd_1
          replace hm := hm.pure kd_1
          replace hw := hw.pure kd_1
          apply DQ.step (E' := [(9, _)])
          case ho => rfl
          case hs => exact ⟨rfl, trivial⟩
          case hk => rfl
          case h1 =>
            intro wq_2 kq_2
            refine WL.move rfl rfl (?_)
            refine WL.nil ?_
            exact WX.one ⟨rfl, by exact Chg.refl _ _⟩
          apply DQ.step (E' := [(10, _)])
          case ho => rfl
          case hs => exact ⟨rfl, trivial⟩
          case hk => rfl
          case h1 =>
            intro wq_3 kq_3
            refine WL.move rfl rfl (?_)
            refine WL.nil ?_
            exact WX.one ⟨rfl, by exact Chg.refl _ _⟩
          apply DQ.step (E' := [(81, _)])
          case ho => rfl
          case hs => exact ⟨rfl, trivial⟩
          case hk => rfl
          case h1 =>
            intro wq_4 kq_4
            refine WL.sub64 rfl rfl (by omega) rfl (?_)
            refine WL.nil ?_
            exact WX.one ⟨rfl, by exact Chg.refl _ _⟩
          apply DQ.step (E' := [(80, _), (82, _)])
          case ho => rfl
          case hs => exact ⟨rfl, rfl, trivial⟩
          case hk => rfl
          case h1 =>
            intro wq_5 kq_5
            have zs_kq_5 := kq_5.size
            replace hv := hv.pure kq_5
            replace hh := hh.pure kq_5
            replace hk := hk.pure kq_5
            replace hm := hm.pure kq_5
            replace hw := hw.pure kq_5
            refine WL.indexC hv.rsl Tryd.underlying133 Tryd.sizeOf44 rfl rfl ⟨f15, (by omega)⟩ rfl ?_
            refine WL.nil ?_
            exact WX.one ⟨rfl, by exact Chg.refl _ _⟩
          apply DQ.step (E' := [(83, _)])
          case ho => rfl
          case hs => exact ⟨rfl, trivial⟩
          case hk => rfl
          case h1 =>
            intro wq_6 kq_6
            have zs_kq_6 := kq_6.size
            replace hv := hv.pure kq_6
            replace hh := hh.pure kq_6
            replace hk := hk.pure kq_6
            replace hm := hm.pure kq_6
            replace hw := hw.pure kq_6
            refine WL.load Tryd.isAgg44 rfl ((hv.rsl.cellsAt f15) 0 _ rfl) rfl (?_)
            refine WL.nil ?_
            exact WX.one ⟨rfl, by exact Chg.refl _ _⟩
          apply DQ.step (E' := [(84, _)])
          case ho => rfl
          case hs => exact ⟨rfl, trivial⟩
          case hk => rfl
          case h1 =>
            intro wq_7 kq_7
            have zs_kq_7 := kq_7.size
            replace hv := hv.pure kq_7
            replace hh := hh.pure kq_7
            replace hk := hk.pure kq_7
            replace hm := hm.pure kq_7
            replace hw := hw.pure kq_7
            refine WL.call eg_82 rfl rfl (ror64_calls _ 7 _ (by decide)) ?_
            rintro v w8 ⟨rfl, k⟩
            have zs_k := k.size
            replace hv := hv.pure k
            replace hh := hh.pure k
            replace hk := hk.pure k
            replace hm := hm.pure k
            replace hw := hw.pure k
            refine WL.nil ?_
            exact WX.one ⟨rfl, by assumption⟩
          apply DQ.step (E' := [(9, _)])
          case ho => rfl
          case hs => exact ⟨rfl, trivial⟩
          case hk => rfl
          case h1 =>
            intro wq_8 kq_8
            refine WL.move rfl rfl (?_)
            refine WL.nil ?_
            exact WX.one ⟨rfl, by exact Chg.refl _ _⟩
          apply DQ.step (E' := [(10, _)])
          case ho => rfl
          case hs => exact ⟨rfl, trivial⟩
          case hk => rfl
          case h1 =>
            intro wq_9 kq_9
            refine WL.move rfl rfl (?_)
            refine WL.nil ?_
            exact WX.one ⟨rfl, by exact Chg.refl _ _⟩
          apply DQ.step (E' := [(87, _)])
          case ho => rfl
          case hs => exact ⟨rfl, trivial⟩
          case hk => rfl
          case h1 =>
            intro wq_10 kq_10
            refine WL.sub64 rfl rfl (by omega) rfl (?_)
            refine WL.nil ?_
            exact WX.one ⟨rfl, by exact Chg.refl _ _⟩
          apply DQ.step (E' := [(86, _), (88, _)])
          case ho => rfl
          case hs => exact ⟨rfl, rfl, trivial⟩
          case hk => rfl
          case h1 =>
            intro wq_11 kq_11
            have zs_kq_11 := kq_11.size
            replace hv := hv.pure kq_11
            replace hh := hh.pure kq_11
            replace hk := hk.pure kq_11
            replace hm := hm.pure kq_11
            replace hw := hw.pure kq_11
            refine WL.indexC hv.rsl Tryd.underlying133 Tryd.sizeOf44 rfl rfl ⟨f15, (by omega)⟩ rfl ?_
            refine WL.nil ?_
            exact WX.one ⟨rfl, by exact Chg.refl _ _⟩
          apply DQ.step (E' := [(89, _)])
          case ho => rfl
          case hs => exact ⟨rfl, trivial⟩
          case hk => rfl
          case h1 =>
            intro wq_12 kq_12
            have zs_kq_12 := kq_12.size
            replace hv := hv.pure kq_12
            replace hh := hh.pure kq_12
            replace hk := hk.pure kq_12
            replace hm := hm.pure kq_12
            replace hw := hw.pure kq_12
            refine WL.load Tryd.isAgg44 rfl ((hv.rsl.cellsAt f15) 0 _ rfl) rfl (?_)
            refine WL.nil ?_
            exact WX.one ⟨rfl, by exact Chg.refl _ _⟩
          apply DQ.step (E' := [(90, _)])
          case ho => rfl
          case hs => exact ⟨rfl, trivial⟩
          case hk => rfl
          case h1 =>
            intro wq_13 kq_13
            have zs_kq_13 := kq_13.size
            replace hv := hv.pure kq_13
            replace hh := hh.pure kq_13
            replace hk := hk.pure kq_13
            replace hm := hm.pure kq_13
            replace hw := hw.pure kq_13
            refine WL.call eg_82 rfl rfl (ror64_calls _ 18 _ (by decide)) ?_
            rintro v w8 ⟨rfl, k⟩
            have zs_k := k.size
            replace hv := hv.pure k
            replace hh := hh.pure k
            replace hk := hk.pure k
            replace hm := hm.pure k
            replace hw := hw.pure k
            refine WL.nil ?_
            exact WX.one ⟨rfl, by assumption⟩
          apply DQ.step (E' := [(85, _), (91, _)])
          case ho => rfl
          case hs => exact ⟨rfl, rfl, trivial⟩
          case hk => rfl
          case h1 =>
            intro wq_14 kq_14
            refine WL.num rfl rfl (n_xor64 _ _ _ _) rfl (?_)
            refine WL.nil ?_
            exact WX.one ⟨rfl, by exact Chg.refl _ _⟩
          apply DQ.step (E' := [(9, _)])
          case ho => rfl
          case hs => exact ⟨rfl, trivial⟩
          case hk => rfl
          case h1 =>
            intro wq_15 kq_15
            refine WL.move rfl rfl (?_)
            refine WL.nil ?_
            exact WX.one ⟨rfl, by exact Chg.refl _ _⟩
          apply DQ.step (E' := [(10, _)])
          case ho => rfl
          case hs => exact ⟨rfl, trivial⟩
          case hk => rfl
          case h1 =>
            intro wq_16 kq_16
            refine WL.move rfl rfl (?_)
            refine WL.nil ?_
            exact WX.one ⟨rfl, by exact Chg.refl _ _⟩
          apply DQ.step (E' := [(94, _)])
          case ho => rfl
          case hs => exact ⟨rfl, trivial⟩
          case hk => rfl
          case h1 =>
            intro wq_17 kq_17
            refine WL.sub64 rfl rfl (by omega) rfl (?_)
            refine WL.nil ?_
            exact WX.one ⟨rfl, by exact Chg.refl _ _⟩
          apply DQ.step (E' := [(93, _), (95, _)])
          case ho => rfl
          case hs => exact ⟨rfl, rfl, trivial⟩
          case hk => rfl
          case h1 =>
            intro wq_18 kq_18
            have zs_kq_18 := kq_18.size
            replace hv := hv.pure kq_18
            replace hh := hh.pure kq_18
            replace hk := hk.pure kq_18
            replace hm := hm.pure kq_18
            replace hw := hw.pure kq_18
            refine WL.indexC hv.rsl Tryd.underlying133 Tryd.sizeOf44 rfl rfl ⟨f15, (by omega)⟩ rfl ?_
            refine WL.nil ?_
            exact WX.one ⟨rfl, by exact Chg.refl _ _⟩
          apply DQ.step (E' := [(96, _)])
          case ho => rfl
          case hs => exact ⟨rfl, trivial⟩
          case hk => rfl
          case h1 =>
            intro wq_19 kq_19
            have zs_kq_19 := kq_19.size
            replace hv := hv.pure kq_19
            replace hh := hh.pure kq_19
            replace hk := hk.pure kq_19
            replace hm := hm.pure kq_19
            replace hw := hw.pure kq_19
            refine WL.load Tryd.isAgg44 rfl ((hv.rsl.cellsAt f15) 0 _ rfl) rfl (?_)
            refine WL.nil ?_
            exact WX.one ⟨rfl, by exact Chg.refl _ _⟩
          apply DQ.step (E' := [(97, _)])
          case ho => rfl
          case hs => exact ⟨rfl, trivial⟩
          case hk => rfl
          case h1 =>
            intro wq_20 kq_20
            refine WL.num rfl rfl (n_shr64 _ _ _ _ 3 (by decide)) rfl (?_)
            refine WL.nil ?_
            exact WX.one ⟨rfl, by exact Chg.refl _ _⟩
          apply DQ.step (E' := [(92, _), (98, _)])
          case ho => rfl
          case hs => exact ⟨rfl, rfl, trivial⟩
          case hk => rfl
          case h1 =>
            intro wq_21 kq_21
            refine WL.num rfl rfl (n_xor64 _ _ _ _) rfl ?_
            rw [show ((rotr ((sch B t).getD (t - 15) 0) 7).toUInt64 ^^^ (rotr ((sch B t).getD (t - 15) 0) 18).toUInt64) ^^^ (((sch B t).getD (t - 15) 0).toUInt64 >>> UInt64.ofNat 3) = S0r ((sch B t).getD (t - 15) 0) from rfl]
            refine WL.nil ?_
            exact WX.one ⟨rfl, by exact Chg.refl _ _⟩
          apply DQ.step (E' := [(99, _)])
          case ho => rfl
          case hs => exact ⟨rfl, trivial⟩
          case hk => rfl
          case h1 =>
            intro wq_22 kq_22
            refine WL.assign rfl rfl (?_)
            refine WL.nil ?_
            exact WX.one ⟨rfl, by exact Chg.refl _ _⟩
          refine DQ.done (fun _ => ?_)
          refine DL.done (fun we_23 ke_23 => ?_)
          have zs_ke_23 := ke_23.size
          replace hv := hv.pure ke_23
          replace hh := hh.pure ke_23
          replace hk := hk.pure ke_23
          replace hm := hm.pure ke_23
          replace hw := hw.pure ke_23
          refine WX.then_normal (WC.seq (?_))
          refine WC.draw (Nob) [0, 1, 2, 3, 4, 5, 6, 7, 8, 9, 10, 11, 12, 13, 14, 15, 16, 17, 18, 19, 20] [] mixed rfl rfl (fun wd_24 kd_24 zd_24 => ?_)
          have zs_kd_24 := kd_24.size
          replace hv := hv.pure kd_24
          replace hh := hh.pure kd_24
          replace hk := hk.pure kd_24
          replace hm := hm.pure kd_24
          replace hw := hw.pure kd_24
          apply DQ.step (E' := [(9, _)])
          case ho => rfl
          case hs => exact ⟨rfl, trivial⟩
          case hk => rfl
          case h1 =>
            intro wq_25 kq_25
            refine WL.move rfl rfl (?_)
            refine WL.nil ?_
            exact WX.one ⟨rfl, by exact Chg.refl _ _⟩
          apply DQ.step (E' := [(10, _)])
          case ho => rfl
          case hs => exact ⟨rfl, trivial⟩
          case hk => rfl
          case h1 =>
            intro wq_26 kq_26
            refine WL.move rfl rfl (?_)
            refine WL.nil ?_
            exact WX.one ⟨rfl, by exact Chg.refl _ _⟩
          apply DQ.step (E' := [(101, _)])
          case ho => rfl
          case hs => exact ⟨rfl, trivial⟩
          case hk => rfl
          case h1 =>
            intro wq_27 kq_27
            refine WL.sub64 rfl rfl (by omega) rfl (?_)
            refine WL.nil ?_
            exact WX.one ⟨rfl, by exact Chg.refl _ _⟩
          apply DQ.step (E' := [(100, _), (102, _)])
          case ho => rfl
          case hs => exact ⟨rfl, rfl, trivial⟩
          case hk => rfl
          case h1 =>
            intro wq_28 kq_28
            have zs_kq_28 := kq_28.size
            replace hv := hv.pure kq_28
            replace hh := hh.pure kq_28
            replace hk := hk.pure kq_28
            replace hm := hm.pure kq_28
            replace hw := hw.pure kq_28
            refine WL.indexC hv.rsl Tryd.underlying133 Tryd.sizeOf44 rfl rfl ⟨f2, (by omega)⟩ rfl ?_
            refine WL.nil ?_
            exact WX.one ⟨rfl, by exact Chg.refl _ _⟩
          apply DQ.step (E' := [(103, _)])
          case ho => rfl
          case hs => exact ⟨rfl, trivial⟩
          case hk => rfl
          case h1 =>
            intro wq_29 kq_29
            have zs_kq_29 := kq_29.size
            replace hv := hv.pure kq_29
            replace hh := hh.pure kq_29
            replace hk := hk.pure kq_29
            replace hm := hm.pure kq_29
            replace hw := hw.pure kq_29
            refine WL.load Tryd.isAgg44 rfl ((hv.rsl.cellsAt f2) 0 _ rfl) rfl (?_)
            refine WL.nil ?_
            exact WX.one ⟨rfl, by exact Chg.refl _ _⟩
          apply DQ.step (E' := [(104, _)])
          case ho => rfl
          case hs => exact ⟨rfl, trivial⟩
          case hk => rfl
          case h1 =>
            intro wq_30 kq_30
            have zs_kq_30 := kq_30.size
            replace hv := hv.pure kq_30
            replace hh := hh.pure kq_30
            replace hk := hk.pure kq_30
            replace hm := hm.pure kq_30
            replace hw := hw.pure kq_30
            refine WL.call eg_82 rfl rfl (ror64_calls _ 17 _ (by decide)) ?_
            rintro v w8 ⟨rfl, k⟩
            have zs_k := k.size
            replace hv := hv.pure k
            replace hh := hh.pure k
            replace hk := hk.pure k
            replace hm := hm.pure k
            replace hw := hw.pure k
            refine WL.nil ?_
            exact WX.one ⟨rfl, by assumption⟩
          apply DQ.step (E' := [(9, _)])
          case ho => rfl
          case hs => exact ⟨rfl, trivial⟩
          case hk => rfl
          case h1 =>
            intro wq_31 kq_31
            refine WL.move rfl rfl (?_)
            refine WL.nil ?_
            exact WX.one ⟨rfl, by exact Chg.refl _ _⟩
          apply DQ.step (E' := [(10, _)])
          case ho => rfl
          case hs => exact ⟨rfl, trivial⟩
          case hk => rfl
          case h1 =>
            intro wq_32 kq_32
            refine WL.move rfl rfl (?_)
            refine WL.nil ?_
            exact WX.one ⟨rfl, by exact Chg.refl _ _⟩
          apply DQ.step (E' := [(107, _)])
          case ho => rfl
          case hs => exact ⟨rfl, trivial⟩
          case hk => rfl
          case h1 =>
            intro wq_33 kq_33
            refine WL.sub64 rfl rfl (by omega) rfl (?_)
            refine WL.nil ?_
            exact WX.one ⟨rfl, by exact Chg.refl _ _⟩
          apply DQ.step (E' := [(106, _), (108, _)])
          case ho => rfl
          case hs => exact ⟨rfl, rfl, trivial⟩
          case hk => rfl
          case h1 =>
            intro wq_34 kq_34
            have zs_kq_34 := kq_34.size
            replace hv := hv.pure kq_34
            replace hh := hh.pure kq_34
            replace hk := hk.pure kq_34
            replace hm := hm.pure kq_34
            replace hw := hw.pure kq_34
            refine WL.indexC hv.rsl Tryd.underlying133 Tryd.sizeOf44 rfl rfl ⟨f2, (by omega)⟩ rfl ?_
            refine WL.nil ?_
            exact WX.one ⟨rfl, by exact Chg.refl _ _⟩
          apply DQ.step (E' := [(109, _)])
          case ho => rfl
          case hs => exact ⟨rfl, trivial⟩
          case hk => rfl
          case h1 =>
            intro wq_35 kq_35
            have zs_kq_35 := kq_35.size
            replace hv := hv.pure kq_35
            replace hh := hh.pure kq_35
            replace hk := hk.pure kq_35
            replace hm := hm.pure kq_35
            replace hw := hw.pure kq_35
            refine WL.load Tryd.isAgg44 rfl ((hv.rsl.cellsAt f2) 0 _ rfl) rfl (?_)
            refine WL.nil ?_
            exact WX.one ⟨rfl, by exact Chg.refl _ _⟩
          apply DQ.step (E' := [(110, _)])
          case ho => rfl
          case hs => exact ⟨rfl, trivial⟩
          case hk => rfl
          case h1 =>
            intro wq_36 kq_36
            have zs_kq_36 := kq_36.size
            replace hv := hv.pure kq_36
            replace hh := hh.pure kq_36
            replace hk := hk.pure kq_36
            replace hm := hm.pure kq_36
            replace hw := hw.pure kq_36
            refine WL.call eg_82 rfl rfl (ror64_calls _ 19 _ (by decide)) ?_
            rintro v w8 ⟨rfl, k⟩
            have zs_k := k.size
            replace hv := hv.pure k
            replace hh := hh.pure k
            replace hk := hk.pure k
            replace hm := hm.pure k
            replace hw := hw.pure k
            refine WL.nil ?_
            exact WX.one ⟨rfl, by assumption⟩
          apply DQ.step (E' := [(105, _), (111, _)])
          case ho => rfl
          case hs => exact ⟨rfl, rfl, trivial⟩
          case hk => rfl
          case h1 =>
            intro wq_37 kq_37
            refine WL.num rfl rfl (n_xor64 _ _ _ _) rfl (?_)
            refine WL.nil ?_
            exact WX.one ⟨rfl, by exact Chg.refl _ _⟩
          apply DQ.step (E' := [(9, _)])
          case ho => rfl
          case hs => exact ⟨rfl, trivial⟩
          case hk => rfl
          case h1 =>
            intro wq_38 kq_38
            refine WL.move rfl rfl (?_)
            refine WL.nil ?_
            exact WX.one ⟨rfl, by exact Chg.refl _ _⟩
          apply DQ.step (E' := [(10, _)])
          case ho => rfl
          case hs => exact ⟨rfl, trivial⟩
          case hk => rfl
          case h1 =>
            intro wq_39 kq_39
            refine WL.move rfl rfl (?_)
            refine WL.nil ?_
            exact WX.one ⟨rfl, by exact Chg.refl _ _⟩
          apply DQ.step (E' := [(114, _)])
          case ho => rfl
          case hs => exact ⟨rfl, trivial⟩
          case hk => rfl
          case h1 =>
            intro wq_40 kq_40
            refine WL.sub64 rfl rfl (by omega) rfl (?_)
            refine WL.nil ?_
            exact WX.one ⟨rfl, by exact Chg.refl _ _⟩
          apply DQ.step (E' := [(113, _), (115, _)])
          case ho => rfl
          case hs => exact ⟨rfl, rfl, trivial⟩
          case hk => rfl
          case h1 =>
            intro wq_41 kq_41
            have zs_kq_41 := kq_41.size
            replace hv := hv.pure kq_41
            replace hh := hh.pure kq_41
            replace hk := hk.pure kq_41
            replace hm := hm.pure kq_41
            replace hw := hw.pure kq_41
            refine WL.indexC hv.rsl Tryd.underlying133 Tryd.sizeOf44 rfl rfl ⟨f2, (by omega)⟩ rfl ?_
            refine WL.nil ?_
            exact WX.one ⟨rfl, by exact Chg.refl _ _⟩
          apply DQ.step (E' := [(116, _)])
          case ho => rfl
          case hs => exact ⟨rfl, trivial⟩
          case hk => rfl
          case h1 =>
            intro wq_42 kq_42
            have zs_kq_42 := kq_42.size
            replace hv := hv.pure kq_42
            replace hh := hh.pure kq_42
            replace hk := hk.pure kq_42
            replace hm := hm.pure kq_42
            replace hw := hw.pure kq_42
            refine WL.load Tryd.isAgg44 rfl ((hv.rsl.cellsAt f2) 0 _ rfl) rfl (?_)
            refine WL.nil ?_
            exact WX.one ⟨rfl, by exact Chg.refl _ _⟩
          apply DQ.step (E' := [(117, _)])
          case ho => rfl
          case hs => exact ⟨rfl, trivial⟩
          case hk => rfl
          case h1 =>
            intro wq_43 kq_43
            refine WL.num rfl rfl (n_shr64 _ _ _ _ 10 (by decide)) rfl (?_)
            refine WL.nil ?_
            exact WX.one ⟨rfl, by exact Chg.refl _ _⟩
          apply DQ.step (E' := [(112, _), (118, _)])
          case ho => rfl
          case hs => exact ⟨rfl, rfl, trivial⟩
          case hk => rfl
          case h1 =>
            intro wq_44 kq_44
            refine WL.num rfl rfl (n_xor64 _ _ _ _) rfl ?_
            rw [show ((rotr ((sch B t).getD (t - 2) 0) 17).toUInt64 ^^^ (rotr ((sch B t).getD (t - 2) 0) 19).toUInt64) ^^^ (((sch B t).getD (t - 2) 0).toUInt64 >>> UInt64.ofNat 10) = S1r ((sch B t).getD (t - 2) 0) from rfl]
            refine WL.nil ?_
            exact WX.one ⟨rfl, by exact Chg.refl _ _⟩
          apply DQ.step (E' := [(119, _)])
          case ho => rfl
          case hs => exact ⟨rfl, trivial⟩
          case hk => rfl
          case h1 =>
            intro wq_45 kq_45
            refine WL.assign rfl rfl (?_)
            refine WL.nil ?_
            exact WX.one ⟨rfl, by exact Chg.refl _ _⟩
          refine DQ.done (fun _ => ?_)
          refine DL.done (fun we_46 ke_46 => ?_)
          have zs_ke_46 := ke_46.size
          replace hv := hv.pure ke_46
          replace hh := hh.pure ke_46
          replace hk := hk.pure ke_46
          replace hm := hm.pure ke_46
          replace hw := hw.pure ke_46
          refine WX.then_normal (?_)
          have hJ : RSl (fun x => n2 ≤ x) _ e64 (some ⟨bw, 0, none⟩) cw (WU B t) := hv.rsl
          refine WC.drawJ (fun x => x = bw) (JW n2 bw cw B t) JW.pure [0, 1, 2, 3, 4, 5, 6, 7, 8, 9, 10, 11, 12, 13, 14, 15, 16] [17, 18, 19] mixed rfl rfl hJ (fun wd_47 kd_47 zd_47 => ?_)
          have zs_kd_47 := kd_47.size
          replace hv := hv.pure kd_47
          replace hh := hh.pure kd_47
          replace hk := hk.pure kd_47
          replace hm := hm.pure kd_47
          replace hw := hw.pure kd_47
          replace hJ := hJ.pure kd_47
          apply DQ.step (E' := [(9, _)])
          case ho => rfl
          case hs => exact ⟨rfl, trivial⟩
          case hk => rfl
          case h1 =>
            rintro wq_49 ⟨kq_49, jq⟩
            refine WL.move rfl rfl (?_)
            refine WL.nil ?_
            exact WX.one ⟨rfl, by exact Chg.refl _ _⟩
          apply DQ.step (E' := [(9, _)])
          case ho => rfl
          case hs => exact ⟨rfl, trivial⟩
          case hk => rfl
          case h1 =>
            rintro wq_50 ⟨kq_50, jq⟩
            refine WL.move rfl rfl (?_)
            refine WL.nil ?_
            exact WX.one ⟨rfl, by exact Chg.refl _ _⟩
          apply DQ.step (E' := [(10, _)])
          case ho => rfl
          case hs => exact ⟨rfl, trivial⟩
          case hk => rfl
          case h1 =>
            rintro wq_51 ⟨kq_51, jq⟩
            refine WL.move rfl rfl (?_)
            refine WL.nil ?_
            exact WX.one ⟨rfl, by exact Chg.refl _ _⟩
          apply DQ.step (E' := [(122, _)])
          case ho => rfl
          case hs => exact ⟨rfl, trivial⟩
          case hk => rfl
          case h1 =>
            rintro wq_52 ⟨kq_52, jq⟩
            refine WL.sub64 rfl rfl (by omega) rfl (?_)
            refine WL.nil ?_
            exact WX.one ⟨rfl, by exact Chg.refl _ _⟩
          apply DQ.step (E' := [(121, _), (123, _)])
          case ho => rfl
          case hs => exact ⟨rfl, rfl, trivial⟩
          case hk => rfl
          case h1 =>
            rintro wq_53 ⟨kq_53, jq⟩
            have zs_kq_53 := kq_53.size
            replace hh := hh.chg kq_53 (by intro b h1 h2 h3; have h4 : _ = _ := h3; (try dsimp only at h2); exfalso; omega)
            replace hk := hk.chg kq_53 (by intro b h1 h2 h3; have h4 : _ = _ := h3; (try dsimp only at h2); exfalso; omega)
            replace hm := hm.chg kq_53 (by intro b h1 h2 h3; have h4 : _ = _ := h3; (try dsimp only at h2); exfalso; omega)
            replace hw := hw.chg kq_53 (by intro x h1 h2; have h3 : _ = _ := h2; exfalso; omega)
            refine WL.indexC jq.rsl Tryd.underlying133 Tryd.sizeOf44 rfl rfl ⟨f16, (by omega)⟩ rfl ?_
            refine WL.nil ?_
            exact WX.one ⟨rfl, by exact Chg.refl _ _⟩
          apply DQ.step (E' := [(124, _)])
          case ho => rfl
          case hs => exact ⟨rfl, trivial⟩
          case hk => rfl
          case h1 =>
            rintro wq_54 ⟨kq_54, jq⟩
            have zs_kq_54 := kq_54.size
            replace hh := hh.chg kq_54 (by intro b h1 h2 h3; have h4 : _ = _ := h3; (try dsimp only at h2); exfalso; omega)
            replace hk := hk.chg kq_54 (by intro b h1 h2 h3; have h4 : _ = _ := h3; (try dsimp only at h2); exfalso; omega)
            replace hm := hm.chg kq_54 (by intro b h1 h2 h3; have h4 : _ = _ := h3; (try dsimp only at h2); exfalso; omega)
            replace hw := hw.chg kq_54 (by intro x h1 h2; have h3 : _ = _ := h2; exfalso; omega)
            refine WL.load Tryd.isAgg44 rfl ((jq.rsl.cellsAt f16) 0 _ rfl) rfl (?_)
            refine WL.nil ?_
            exact WX.one ⟨rfl, by exact Chg.refl _ _⟩
          apply DQ.step (E' := [(13, _)])
          case ho => rfl
          case hs => exact ⟨rfl, trivial⟩
          case hk => rfl
          case h1 =>
            rintro wq_55 ⟨kq_55, jq⟩
            refine WL.move rfl rfl (?_)
            refine WL.nil ?_
            exact WX.one ⟨rfl, by exact Chg.refl _ _⟩
          apply DQ.step (E' := [(125, _), (126, _)])
          case ho => rfl
          case hs => exact ⟨rfl, rfl, trivial⟩
          case hk => rfl
          case h1 =>
            rintro wq_56 ⟨kq_56, jq⟩
            refine WL.num rfl rfl (n_add64 _ _ _ _) rfl (?_)
            refine WL.nil ?_
            exact WX.one ⟨rfl, by exact Chg.refl _ _⟩
          apply DQ.step (E' := [(9, _)])
          case ho => rfl
          case hs => exact ⟨rfl, trivial⟩
          case hk => rfl
          case h1 =>
            rintro wq_57 ⟨kq_57, jq⟩
            refine WL.move rfl rfl (?_)
            refine WL.nil ?_
            exact WX.one ⟨rfl, by exact Chg.refl _ _⟩
          apply DQ.step (E' := [(10, _)])
          case ho => rfl
          case hs => exact ⟨rfl, trivial⟩
          case hk => rfl
          case h1 =>
            rintro wq_58 ⟨kq_58, jq⟩
            refine WL.move rfl rfl (?_)
            refine WL.nil ?_
            exact WX.one ⟨rfl, by exact Chg.refl _ _⟩
          apply DQ.step (E' := [(129, _)])
          case ho => rfl
          case hs => exact ⟨rfl, trivial⟩
          case hk => rfl
          case h1 =>
            rintro wq_59 ⟨kq_59, jq⟩
            refine WL.sub64 rfl rfl (by omega) rfl (?_)
            refine WL.nil ?_
            exact WX.one ⟨rfl, by exact Chg.refl _ _⟩
          apply DQ.step (E' := [(128, _), (130, _)])
          case ho => rfl
          case hs => exact ⟨rfl, rfl, trivial⟩
          case hk => rfl
          case h1 =>
            rintro wq_60 ⟨kq_60, jq⟩
            have zs_kq_60 := kq_60.size
            replace hh := hh.chg kq_60 (by intro b h1 h2 h3; have h4 : _ = _ := h3; (try dsimp only at h2); exfalso; omega)
            replace hk := hk.chg kq_60 (by intro b h1 h2 h3; have h4 : _ = _ := h3; (try dsimp only at h2); exfalso; omega)
            replace hm := hm.chg kq_60 (by intro b h1 h2 h3; have h4 : _ = _ := h3; (try dsimp only at h2); exfalso; omega)
            replace hw := hw.chg kq_60 (by intro x h1 h2; have h3 : _ = _ := h2; exfalso; omega)
            refine WL.indexC jq.rsl Tryd.underlying133 Tryd.sizeOf44 rfl rfl ⟨f7, (by omega)⟩ rfl ?_
            refine WL.nil ?_
            exact WX.one ⟨rfl, by exact Chg.refl _ _⟩
          apply DQ.step (E' := [(131, _)])
          case ho => rfl
          case hs => exact ⟨rfl, trivial⟩
          case hk => rfl
          case h1 =>
            rintro wq_61 ⟨kq_61, jq⟩
            have zs_kq_61 := kq_61.size
            replace hh := hh.chg kq_61 (by intro b h1 h2 h3; have h4 : _ = _ := h3; (try dsimp only at h2); exfalso; omega)
            replace hk := hk.chg kq_61 (by intro b h1 h2 h3; have h4 : _ = _ := h3; (try dsimp only at h2); exfalso; omega)
            replace hm := hm.chg kq_61 (by intro b h1 h2 h3; have h4 : _ = _ := h3; (try dsimp only at h2); exfalso; omega)
            replace hw := hw.chg kq_61 (by intro x h1 h2; have h3 : _ = _ := h2; exfalso; omega)
            refine WL.load Tryd.isAgg44 rfl ((jq.rsl.cellsAt f7) 0 _ rfl) rfl (?_)
            refine WL.nil ?_
            exact WX.one ⟨rfl, by exact Chg.refl _ _⟩
          apply DQ.step (E' := [(127, _), (132, _)])
          case ho => rfl
          case hs => exact ⟨rfl, rfl, trivial⟩
          case hk => rfl
          case h1 =>
            rintro wq_62 ⟨kq_62, jq⟩
            refine WL.num rfl rfl (n_add64 _ _ _ _) rfl (?_)
            refine WL.nil ?_
            exact WX.one ⟨rfl, by exact Chg.refl _ _⟩
          apply DQ.step (E' := [(14, _)])
          case ho => rfl
          case hs => exact ⟨rfl, trivial⟩
          case hk => rfl
          case h1 =>
            rintro wq_63 ⟨kq_63, jq⟩
            refine WL.move rfl rfl (?_)
            refine WL.nil ?_
            exact WX.one ⟨rfl, by exact Chg.refl _ _⟩
          apply DQ.step (E' := [(133, _), (134, _)])
          case ho => rfl
          case hs => exact ⟨rfl, rfl, trivial⟩
          case hk => rfl
          case h1 =>
            rintro wq_64 ⟨kq_64, jq⟩
            refine WL.num rfl rfl (n_add64 _ _ _ _) rfl (?_)
            refine WL.nil ?_
            exact WX.one ⟨rfl, by exact Chg.refl _ _⟩
          apply DQ.step (E' := [(135, _)])
          case ho => rfl
          case hs => exact ⟨rfl, trivial⟩
          case hk => rfl
          case h1 =>
            rintro wq_65 ⟨kq_65, jq⟩
            refine WL.num rfl rfl (n_and64 _ _ _ 4294967295) rfl ?_
            rw [nextW_up, ← nextW_big (b := B) (by omega)]
            refine WL.nil ?_
            exact WX.one ⟨rfl, by exact Chg.refl _ _⟩
          refine DQ.doneJ (fun hd_48 => ?_)
          refine DL.step [(136, _)] rfl ⟨rfl, trivial⟩ rfl (fun wq_66 kq_66 => ?_)
          have zs_kq_66 := kq_66.size
          replace hv := hv.pure kq_66
          replace hh := hh.pure kq_66
          replace hk := hk.pure kq_66
          replace hm := hm.pure kq_66
          replace hw := hw.pure kq_66
          replace hJ := hJ.pure kq_66
          replace hd_48 := hd_48.pure kq_66
          refine WL.build (e := e64) [(nextW B (sch B t) t).toUInt64] Tryd.underlying133 Tryd.sizeOf44 Tryd.zeroValue44 rfl rfl rfl (by simp [Value.cells] <;> rfl) (by decide) rfl ?_
          intro a_hn w_hn hn l_hn z_hn k_hn
          have zs_k_hn := k_hn.size
          replace hv := hv.pure k_hn
          replace hh := hh.pure k_hn
          replace hk := hk.pure k_hn
          replace hm := hm.pure k_hn
          replace hw := hw.pure k_hn
          replace hJ := hJ.pure k_hn
          replace hd_48 := hd_48.pure k_hn
          refine WL.nil ?_
          refine WX.one ⟨⟨hd_48, (by exact hJ)⟩, ?_⟩
          refine DL.step [(120, _), (137, _)] rfl ⟨rfl, rfl, trivial⟩ rfl (fun wq_67 kq_67 => ?_)
          have zs_kq_67 := kq_67.size
          replace hv := hv.pure kq_67
          replace hh := hh.pure kq_67
          replace hk := hk.pure kq_67
          replace hm := hm.pure kq_67
          replace hw := hw.pure kq_67
          replace hJ := hJ.pure kq_67
          replace hd_48 := hd_48.pure kq_67
          replace hn := hn.pure kq_67
          refine WL.append' (e := e64) info_44 rfl Tryd.underlying133 rfl rfl hv (hn.rsl.src Tryd.underlying133) (by constructor <;> (simp only [List.length_cons, List.length_nil]; omega)) (fun b hb => by omega) rfl ?_
          intro a_hv2 c_hv2 wa hv2 ga na hJ2
          have gc : Chg (fun x => x = bw) _ wa := ga.chg.mono (by rintro x _ ⟨⟨a, ea, rfl⟩, _⟩; injection ea with ea; rw [← ea])
          have zga := gc.size
          have zs_gc := gc.size
          replace hh := hh.chg gc (by intro b h1 h2 h3; have h4 : _ = _ := h3; (try dsimp only at h2); exfalso; omega)
          replace hk := hk.chg gc (by intro b h1 h2 h3; have h4 : _ = _ := h3; (try dsimp only at h2); exfalso; omega)
          replace hm := hm.chg gc (by intro b h1 h2 h3; have h4 : _ = _ := h3; (try dsimp only at h2); exfalso; omega)
          replace hw := hw.chg gc (by intro x h1 h2; have h3 : _ = _ := h2; exfalso; omega)
          replace hd_48 := hd_48.chg gc (by intro x h1 h2; exact h2)
          replace hJ := hJ2
          refine WL.nil ?_
          refine WX.one ⟨⟨hd_48, (by exact hJ)⟩, ?_⟩
          refine DL.step [(138, _)] rfl ⟨rfl, trivial⟩ rfl (fun wq_68 kq_68 => ?_)
          have zs_kq_68 := kq_68.size
          replace hh := hh.pure kq_68
          replace hk := hk.pure kq_68
          replace hm := hm.pure kq_68
          replace hw := hw.pure kq_68
          replace hJ := hJ.pure kq_68
          replace hd_48 := hd_48.pure kq_68
          replace hv2 := hv2.pure kq_68
          refine WL.assign rfl rfl (?_)
          refine WL.nil ?_
          refine WX.one ⟨⟨hd_48, (by exact hJ)⟩, ?_⟩
          refine DL.done (fun we_69 ke_69 => ?_)
          have zs_ke_69 := ke_69.size
          replace hh := hh.pure ke_69
          replace hk := hk.pure ke_69
          replace hm := hm.pure ke_69
          replace hw := hw.pure ke_69
          replace hJ := hJ.pure ke_69
          replace hd_48 := hd_48.pure ke_69
          replace hv2 := hv2.pure ke_69
          refine WX.block_normal (WX.then_normal (WC.region (WL.move rfl rfl (WL.add64 rfl rfl (by omega) rfl (WL.assign rfl rfl (WL.nil (?_)))))))
          first
            | (refine WX.loop_next (i + 1, (ah3, ch3), (ak2, ck2)) ⟨rfl, rfl, rfl, rfl, rfl, trivial⟩ ⟨by dsimp only; omega, by omega, hwn, hp, hh3, hk3, hw⟩ (by show _ - _ < _ - _; omega))
            | (have h8 : (UL st0).take i = (UL st0).take (i + 1) := by rw [List.take_of_length_le (by show 8 ≤ i; omega), List.take_of_length_le (by show 8 ≤ i + 1; omega)]
               rw [h8] at hh2
               refine WX.loop_next (i + 1, (ah, ch), (ak2, ck2)) ⟨rfl, rfl, by dsimp only; rw [← h8]; rfl, rfl, rfl, trivial⟩ ⟨by dsimp only; omega, by omega, hwn, hp, hh2, hk2, hw⟩ (by show _ - _ < _ - _; omega))
            | (refine WX.loop_next (i + 1) ⟨rfl, rfl, rfl, rfl, rfl, rfl, rfl, rfl, trivial⟩ ⟨by omega, hn7, hv, hh, hk, hm, hw⟩ (by show _ - _ < _ - _; omega))
            | (have e1 := WU_next B t
               refine WX.loop_next (t + 1, a_hv2, c_hv2) ⟨rfl, rfl, rfl, rfl, ?_, rfl, trivial⟩ ⟨by dsimp only; omega, by omega, ?_, hh, hk, hm, hw⟩ (by show _ - _ < _ - _; omega)
               ·
                 dsimp only; rw [e1]; rfl
               ·
                 dsimp only; rw [e1]; exact hv2)
            | (have e1 : UL (roundsN WS V0 (r + 1)) = NL.set 4 ((V.d.toUInt64 + T1r V kt wt) &&& 4294967295) := by
                 rw [roundsN, ← hV, ← hwt, ← hkt, round_up, hNL]
                 rfl
               refine WX.loop_next (r + 1, some ⟨gB, 0, none⟩, c_hB) ⟨rfl, rfl, rfl, rfl, rfl, ?_, rfl, trivial⟩ ⟨by dsimp only; omega, by omega, hws, ?_, hh, hk, hm, hw⟩ (by show _ - _ < _ - _; omega)
               ·
                 dsimp only; rw [e1, List.length_set]; rfl
               ·
                 dsimp only; rw [e1]; exact hB)
            | (refine WX.loop_next (i + 1) ⟨?_, rfl, rfl, rfl, rfl, rfl, trivial⟩ ⟨by omega, by omega, hv, hh, hk, hm, hw⟩ (by show _ - _ < _ - _; omega)
               show some (Value.slice (some ⟨gh, 0, none⟩) (List.map UInt32.toUInt64 (addTo V0 V i)).length ch) = some (Value.slice (some ⟨gh, 0, none⟩) (List.map UInt32.toUInt64 (addTo V0 V (i + 1))).length ch)
               rw [hal2, List.length_map, addTo_len V0 V (i + 1) (by omega)])
            | (have hi8 : i = 8 := by omega
               subst hi8
               obtain ⟨V1, hV1⟩ : ∃ V1, V1 = mix V0 B := ⟨_, rfl⟩
               have e1 : (addTo V0 V 8).map UInt32.toUInt64 = UL V1 := by
                 rw [hV1, mix_eq, ← hWS, ← hV]
                 rfl
               rw [e1] at hh ⊢
               have e2 : ((64 * (j + 1) : Nat) : Int) = ((64 * j : Nat) : Int) + 64 := by omega
               refine WX.loop_next (V1, j + 1) ⟨rfl, rfl, rfl, ?_, trivial⟩ ⟨by dsimp only; omega, by omega, ?_, hh, hk, hm, hw⟩ (by show M.length - 64 * (j + 1) < M.length - 64 * j; omega)
               ·
                 dsimp only; rw [e2]; rfl
               ·
                 dsimp only
                 rw [← hcomp, comp_more (s := V0) (ms := M.drop (64 * j)) (by rw [List.length_drop]; omega), ← eB, ← hV1, List.drop_drop]
                 rfl)
            | (have e1 : (V0.list.take (i + 1)).flatMap bytes4 = (V0.list.take i).flatMap bytes4 ++ bytes4 (V0.list.getD i 0) := by
                 rw [List.take_add_one, fx0, List.flatMap_append]
                 simp
               refine WX.loop_next (i + 1, a_ho2, c_ho2) ⟨rfl, ?_, rfl, trivial⟩ ⟨by dsimp only; omega, by omega, ?_, hh, hw⟩ (by show _ - _ < _ - _; omega)
               ·
                 dsimp only; rw [e1]; rfl
               ·
                 dsimp only; rw [e1]; exact ho2)
      ·
        refine WL.nil (WX.then_normal (WC.cond_false rfl (WC.exit (WX.then_exit (WX.then_exit (WX.block_here (WX.then_normal (?_))))))))
        refine WC.seq (WC.region (?_))
        have ht64 : t = 64 := by omega
        subst ht64
        obtain ⟨WS, hWS⟩ : ∃ WS, WS = sch B 64 := ⟨_, rfl⟩
        have hWl : WS.length = 64 := by rw [hWS]; exact sch_len B 64
        obtain ⟨WW, hWW⟩ : ∃ WW, WW = WU B 64 := ⟨_, rfl⟩
        have hWW2 : WW = WS.map UInt32.toUInt64 := by rw [hWW, hWS]; rfl
        rw [← hWW] at hv hwl ⊢
        obtain ⟨n3, hn3⟩ : ∃ n3, n3 = w6.heap.size := ⟨_, rfl⟩
        have hgn3 : gh < n3 := by omega
        have hws : RSl (fun x => n2 ≤ x ∧ x < n3) w6 e64 aw cw WW := hv.lt.rsl.mono (fun x hx => by omega)
        refine WL.build (e := e64) [] Tryd.underlying133 Tryd.sizeOf44 Tryd.zeroValue44 rfl rfl rfl (by simp [Value.cells]; done) (by decide) rfl ?_
        intro a_hv0 w_hv0 hv0 l_hv0 z_hv0 k_hv0
        have zs_k_hv0 := k_hv0.size
        replace hh := hh.pure k_hv0
        replace hk := hk.pure k_hv0
        replace hm := hm.pure k_hv0
        replace hw := hw.pure k_hv0
        replace hws := hws.pure k_hv0
        rw [show ([] : List UInt64).length = 0 from rfl]
        refine WL.move rfl rfl (?_)
        have hul : (UL V0).length = 8 := rfl
        refine WL.append (e := e64) info_44 rfl Tryd.underlying133 rfl rfl hv0 (hh.rsl.src Tryd.underlying133) (by (try simp only [List.length_append, List.length_cons, List.length_nil] at *); omega) (by intro b hb; first | (apply hS; omega) | ((try dsimp only); omega)) rfl ?_
        intro a_hv1 c_hv1 w_hv1 hv1 g_hv1 n_hv1
        have z_hv1 := g_hv1.chg.size
        have zs_g_hv1_chg := g_hv1.chg.size
        replace hh := hh.chg g_hv1.chg (by intros; exfalso; (try dsimp only at *); omega)
        replace hk := hk.chg g_hv1.chg (by intros; exfalso; (try dsimp only at *); omega)
        replace hm := hm.chg g_hv1.chg (by intros; exfalso; (try dsimp only at *); omega)
        replace hw := hw.chg g_hv1.chg (by intros; exfalso; (try dsimp only at *); omega)
        replace hws := hws.chg g_hv1.chg (by intros; exfalso; (try dsimp only at *); omega)
        rw [List.nil_append] at hv1 ⊢
        refine WL.assign rfl rfl (WL.nil (WX.then_normal (WC.seq (WC.seq (WC.region (WL.assign rfl rfl (WL.nil (?_))))))))
        refine WX.then_normal (WC.block (?_))
        have hvv : Row (fun x => n3 ≤ x) _ 44 e64 a_hv1 c_hv1 (UL V0) := hv1.mono (fun x hx => by omega)
        refine WC.loop (σ := Nat × Option Addr × Nat) (fun q => [(4, .slice (some ⟨gh, 0, none⟩) (UL V0).length ch), (5, .slice ak K64.length ck), (7, .slice am M.length cm), (8, vi ((64 * j : Nat) : Int)), (9, .slice aw WW.length cw), (15, .slice q.2.1 (UL (roundsN WS V0 q.1)).length q.2.2), (16, vi q.1)])
          (fun q w' => q.1 ≤ 64 ∧ n3 ≤ w'.heap.size ∧ RSl (fun x => n2 ≤ x ∧ x < n3) w' e64 aw cw WW ∧ Row (fun x => n3 ≤ x) w' 44 e64 q.2.1 q.2.2 (UL (roundsN WS V0 q.1)) ∧ Row (fun b => b = gh) w' 44 e64 (some ⟨gh, 0, none⟩) ch (UL V0) ∧ RSl (fun b => b < n2 ∧ b ≠ gh) w' e64 ak ck K64 ∧ RSl (fun b => b < n2 ∧ b ≠ gh) w' eb am cm M ∧ Chg Nob w w') (fun q => 64 - q.1)
          (0, a_hv1, c_hv1) ⟨rfl, rfl, rfl, rfl, rfl, rfl, rfl, trivial⟩ ⟨Nat.zero_le _, by omega, hws, hvv, hh, hk, hm, hw⟩ ?_
        clear hv hvv hv1 hh hk hm hw
        rintro ⟨r, av, cv⟩ w7 ⟨hr, hn7, hws, hv, hh, hk, hm, hw⟩
        dsimp only at hr hn7 hws hv hh hk hm hw ⊢
        refine WC.seq (WC.seq (WC.region (WL.move rfl rfl (?_))))
        refine WL.lss? rfl rfl rfl (fun h143 => ?_) (fun h143 => ?_)
        ·
          refine WL.nil (WX.then_normal (WC.cond_true rfl (WC.skip (WX.then_normal (WC.seq (WC.block (WC.seq (?_))))))))
          obtain ⟨V, hV⟩ : ∃ V, V = roundsN WS V0 r := ⟨_, rfl⟩
          rw [← hV] at hv ⊢
          obtain ⟨wt, hwt⟩ : ∃ wt, wt = WS.getD r 0 := ⟨_, rfl⟩
          obtain ⟨kt, hkt⟩ : ∃ kt, kt = K256.getD r 0 := ⟨_, rfl⟩
          have fk : K64[r]? = some kt.toUInt64 := by rw [hkt]; exact map_at _ (getD_at (by show r < 64; omega))
          have fw : WW[r]? = some wt.toUInt64 := by rw [hWW2, hwt]; exact map_at _ (getD_at (by omega))
          obtain ⟨gv, rfl⟩ := hv.place0 (j := 0) (by show 0 < 8; decide)
          obtain ⟨bk, ok, rfl⟩ := hk.place fk
          obtain ⟨bw, ow, rfl⟩ := hws.place fw
          have fa : (UL V)[0]? = some V.a.toUInt64 := rfl
          have fb : (UL V)[1]? = some V.b.toUInt64 := rfl
          have fc : (UL V)[2]? = some V.c.toUInt64 := rfl
          have fe : (UL V)[4]? = some V.e.toUInt64 := rfl
          have ff : (UL V)[5]? = some V.f.toUInt64 := rfl
          have fg : (UL V)[6]? = some V.g.toUInt64 := rfl
          have fh : (UL V)[7]? = some V.h.toUInt64 := rfl
          have hgv := hv.at_ _ rfl
          dsimp only at hgv
          refine WC.draw (Nob) [0, 1, 2, 3, 4, 5, 6, 7, 8, 9, 10, 11, 12, 13, 14, 15, 16, 17, 18, 19, 20, 21, 22, 23, 24, 25, 26, 27, 28, 29, 30, 31, 32, 33, 34, 35, 36, 37, 38, 39, 40, 41, 42, 43, 44, 45] [] mixed rfl rfl (fun wd_1 kd_1 zd_1 => ?_)
          have zs_kd_1 := kd_1.size
          replace hws := hws.pure kd_1
          replace hv := hv.pure kd_1
          replace hh := hh.pure kd_1
          replace hk := hk.pure kd_1
          replace hm := hm.pure kd_1
          replace hw := hw.pure kd_1
          apply DQ.step (E' := [(15, _)])
          case ho => rfl
          case hs => exact ⟨rfl, trivial⟩
          case hk => rfl
          case h1 =>
            intro wq_2 kq_2
            refine WL.move rfl rfl (?_)
            refine WL.nil ?_
            exact WX.one ⟨rfl, by exact Chg.refl _ _⟩
          apply DQ.step (E' := [(146, _)])
          case ho => rfl
          case hs => exact ⟨rfl, trivial⟩
          case hk => rfl
          case h1 =>
            intro wq_3 kq_3
            have zs_kq_3 := kq_3.size
            replace hws := hws.pure kq_3
            replace hv := hv.pure kq_3
            replace hh := hh.pure kq_3
            replace hk := hk.pure kq_3
            replace hm := hm.pure kq_3
            replace hw := hw.pure kq_3
            refine WL.indexC hv.rsl Tryd.underlying133 Tryd.sizeOf44 rfl rfl ⟨fh, rfl⟩ rfl ?_
            refine WL.nil ?_
            exact WX.one ⟨rfl, by exact Chg.refl _ _⟩
          apply DQ.step (E' := [(147, _)])
          case ho => rfl
          case hs => exact ⟨rfl, trivial⟩
          case hk => rfl
          case h1 =>
            intro wq_4 kq_4
            have zs_kq_4 := kq_4.size
            replace hws := hws.pure kq_4
            replace hv := hv.pure kq_4
            replace hh := hh.pure kq_4
            replace hk := hk.pure kq_4
            replace hm := hm.pure kq_4
            replace hw := hw.pure kq_4
            refine WL.load Tryd.isAgg44 rfl ((hv.rsl.cellsAt fh) 0 _ rfl) rfl (?_)
            refine WL.nil ?_
            exact WX.one ⟨rfl, by exact Chg.refl _ _⟩
          apply DQ.step (E' := [(15, _)])
          case ho => rfl
          case hs => exact ⟨rfl, trivial⟩
          case hk => rfl
          case h1 =>
            intro wq_5 kq_5
            refine WL.move rfl rfl (?_)
            refine WL.nil ?_
            exact WX.one ⟨rfl, by exact Chg.refl _ _⟩
          apply DQ.step (E' := [(149, _)])
          case ho => rfl
          case hs => exact ⟨rfl, trivial⟩
          case hk => rfl
          case h1 =>
            intro wq_6 kq_6
            have zs_kq_6 := kq_6.size
            replace hws := hws.pure kq_6
            replace hv := hv.pure kq_6
            replace hh := hh.pure kq_6
            replace hk := hk.pure kq_6
            replace hm := hm.pure kq_6
            replace hw := hw.pure kq_6
            refine WL.indexC hv.rsl Tryd.underlying133 Tryd.sizeOf44 rfl rfl ⟨fe, rfl⟩ rfl ?_
            refine WL.nil ?_
            exact WX.one ⟨rfl, by exact Chg.refl _ _⟩
          apply DQ.step (E' := [(150, _)])
          case ho => rfl
          case hs => exact ⟨rfl, trivial⟩
          case hk => rfl
          case h1 =>
            intro wq_7 kq_7
            have zs_kq_7 := kq_7.size
            replace hws := hws.pure kq_7
            replace hv := hv.pure kq_7
            replace hh := hh.pure kq_7
            replace hk := hk.pure kq_7
            replace hm := hm.pure kq_7
            replace hw := hw.pure kq_7
            refine WL.load Tryd.isAgg44 rfl ((hv.rsl.cellsAt fe) 0 _ rfl) rfl (?_)
            refine WL.nil ?_
            exact WX.one ⟨rfl, by exact Chg.refl _ _⟩
          apply DQ.step (E' := [(151, _)])
          case ho => rfl
          case hs => exact ⟨rfl, trivial⟩
          case hk => rfl
          case h1 =>
            intro wq_8 kq_8
            have zs_kq_8 := kq_8.size
            replace hws := hws.pure kq_8
            replace hv := hv.pure kq_8
            replace hh := hh.pure kq_8
            replace hk := hk.pure kq_8
            replace hm := hm.pure kq_8
            replace hw := hw.pure kq_8
            refine WL.call eg_82 rfl rfl (ror64_calls _ 6 _ (by decide)) ?_
            rintro v w8 ⟨rfl, k⟩
            have zs_k := k.size
            replace hws := hws.pure k
            replace hv := hv.pure k
            replace hh := hh.pure k
            replace hk := hk.pure k
            replace hm := hm.pure k
            replace hw := hw.pure k
            refine WL.nil ?_
            exact WX.one ⟨rfl, by assumption⟩
          apply DQ.step (E' := [(15, _)])
          case ho => rfl
          case hs => exact ⟨rfl, trivial⟩
          case hk => rfl
          case h1 =>
            intro wq_9 kq_9
            refine WL.move rfl rfl (?_)
            refine WL.nil ?_
            exact WX.one ⟨rfl, by exact Chg.refl _ _⟩
          apply DQ.step (E' := [(153, _)])
          case ho => rfl
          case hs => exact ⟨rfl, trivial⟩
          case hk => rfl
          case h1 =>
            intro wq_10 kq_10
            have zs_kq_10 := kq_10.size
            replace hws := hws.pure kq_10
            replace hv := hv.pure kq_10
            replace hh := hh.pure kq_10
            replace hk := hk.pure kq_10
            replace hm := hm.pure kq_10
            replace hw := hw.pure kq_10
            refine WL.indexC hv.rsl Tryd.underlying133 Tryd.sizeOf44 rfl rfl ⟨fe, rfl⟩ rfl ?_
            refine WL.nil ?_
            exact WX.one ⟨rfl, by exact Chg.refl _ _⟩
          apply DQ.step (E' := [(154, _)])
          case ho => rfl
          case hs => exact ⟨rfl, trivial⟩
          case hk => rfl
          case h1 =>
            intro wq_11 kq_11
            have zs_kq_11 := kq_11.size
            replace hws := hws.pure kq_11
            replace hv := hv.pure kq_11
            replace hh := hh.pure kq_11
            replace hk := hk.pure kq_11
            replace hm := hm.pure kq_11
            replace hw := hw.pure kq_11
            refine WL.load Tryd.isAgg44 rfl ((hv.rsl.cellsAt fe) 0 _ rfl) rfl (?_)
            refine WL.nil ?_
            exact WX.one ⟨rfl, by exact Chg.refl _ _⟩
          apply DQ.step (E' := [(155, _)])
          case ho => rfl
          case hs => exact ⟨rfl, trivial⟩
          case hk => rfl
          case h1 =>
            intro wq_12 kq_12
            have zs_kq_12 := kq_12.size
            replace hws := hws.pure kq_12
            replace hv := hv.pure kq_12
            replace hh := hh.pure kq_12
            replace hk := hk.pure kq_12
            replace hm := hm.pure kq_12
            replace hw := hw.pure kq_12
            refine WL.call eg_82 rfl rfl (ror64_calls _ 11 _ (by decide)) ?_
            rintro v w8 ⟨rfl, k⟩
            have zs_k := k.size
            replace hws := hws.pure k
            replace hv := hv.pure k
            replace hh := hh.pure k
            replace hk := hk.pure k
            replace hm := hm.pure k
            replace hw := hw.pure k
            refine WL.nil ?_
            exact WX.one ⟨rfl, by assumption⟩
          apply DQ.step (E' := [(152, _), (156, _)])
          case ho => rfl
          case hs => exact ⟨rfl, rfl, trivial⟩
          case hk => rfl
          case h1 =>
            intro wq_13 kq_13
            refine WL.num rfl rfl (n_xor64 _ _ _ _) rfl (?_)
            refine WL.nil ?_
            exact WX.one ⟨rfl, by exact Chg.refl _ _⟩
          apply DQ.step (E' := [(15, _)])
          case ho => rfl
          case hs => exact ⟨rfl, trivial⟩
          case hk => rfl
          case h1 =>
            intro wq_14 kq_14
            refine WL.move rfl rfl (?_)
            refine WL.nil ?_
            exact WX.one ⟨rfl, by exact Chg.refl _ _⟩
          apply DQ.step (E' := [(158, _)])
          case ho => rfl
          case hs => exact ⟨rfl, trivial⟩
          case hk => rfl
          case h1 =>
            intro wq_15 kq_15
            have zs_kq_15 := kq_15.size
            replace hws := hws.pure kq_15
            replace hv := hv.pure kq_15
            replace hh := hh.pure kq_15
            replace hk := hk.pure kq_15
            replace hm := hm.pure kq_15
            replace hw := hw.pure kq_15
            refine WL.indexC hv.rsl Tryd.underlying133 Tryd.sizeOf44 rfl rfl ⟨fe, rfl⟩ rfl ?_
            refine WL.nil ?_
            exact WX.one ⟨rfl, by exact Chg.refl _ _⟩
          apply DQ.step (E' := [(159, _)])
          case ho => rfl
          case hs => exact ⟨rfl, trivial⟩
          case hk => rfl
          case h1 =>
            intro wq_16 kq_16
            have zs_kq_16 := kq_16.size
            replace hws := hws.pure kq_16
            replace hv := hv.pure kq_16
            replace hh := hh.pure kq_16
            replace hk := hk.pure kq_16
            replace hm := hm.pure kq_16
            replace hw := hw.pure kq_16
            refine WL.load Tryd.isAgg44 rfl ((hv.rsl.cellsAt fe) 0 _ rfl) rfl (?_)
            refine WL.nil ?_
            exact WX.one ⟨rfl, by exact Chg.refl _ _⟩
          apply DQ.step (E' := [(160, _)])
          case ho => rfl
          case hs => exact ⟨rfl, trivial⟩
          case hk => rfl
          case h1 =>
            intro wq_17 kq_17
            have zs_kq_17 := kq_17.size
            replace hws := hws.pure kq_17
            replace hv := hv.pure kq_17
            replace hh := hh.pure kq_17
            replace hk := hk.pure kq_17
            replace hm := hm.pure kq_17
            replace hw := hw.pure kq_17
            refine WL.call eg_82 rfl rfl (ror64_calls _ 25 _ (by decide)) ?_
            rintro v w8 ⟨rfl, k⟩
            have zs_k := k.size
            replace hws := hws.pure k
            replace hv := hv.pure k
            replace hh := hh.pure k
            replace hk := hk.pure k
            replace hm := hm.pure k
            replace hw := hw.pure k
            refine WL.nil ?_
            exact WX.one ⟨rfl, by assumption⟩
          apply DQ.step (E' := [(157, _), (161, _)])
          case ho => rfl
          case hs => exact ⟨rfl, rfl, trivial⟩
          case hk => rfl
          case h1 =>
            intro wq_18 kq_18
            refine WL.num rfl rfl (n_xor64 _ _ _ _) rfl (?_)
            refine WL.nil ?_
            exact WX.one ⟨rfl, by exact Chg.refl _ _⟩
          apply DQ.step (E' := [(148, _), (162, _)])
          case ho => rfl
          case hs => exact ⟨rfl, rfl, trivial⟩
          case hk => rfl
          case h1 =>
            intro wq_19 kq_19
            refine WL.num rfl rfl (n_add64 _ _ _ _) rfl (?_)
            refine WL.nil ?_
            exact WX.one ⟨rfl, by exact Chg.refl _ _⟩
          apply DQ.step (E' := [(15, _)])
          case ho => rfl
          case hs => exact ⟨rfl, trivial⟩
          case hk => rfl
          case h1 =>
            intro wq_20 kq_20
            refine WL.move rfl rfl (?_)
            refine WL.nil ?_
            exact WX.one ⟨rfl, by exact Chg.refl _ _⟩
          apply DQ.step (E' := [(164, _)])
          case ho => rfl
          case hs => exact ⟨rfl, trivial⟩
          case hk => rfl
          case h1 =>
            intro wq_21 kq_21
            have zs_kq_21 := kq_21.size
            replace hws := hws.pure kq_21
            replace hv := hv.pure kq_21
            replace hh := hh.pure kq_21
            replace hk := hk.pure kq_21
            replace hm := hm.pure kq_21
            replace hw := hw.pure kq_21
            refine WL.indexC hv.rsl Tryd.underlying133 Tryd.sizeOf44 rfl rfl ⟨fe, rfl⟩ rfl ?_
            refine WL.nil ?_
            exact WX.one ⟨rfl, by exact Chg.refl _ _⟩
          apply DQ.step (E' := [(165, _)])
          case ho => rfl
          case hs => exact ⟨rfl, trivial⟩
          case hk => rfl
          case h1 =>
            intro wq_22 kq_22
            have zs_kq_22 := kq_22.size
            replace hws := hws.pure kq_22
            replace hv := hv.pure kq_22
            replace hh := hh.pure kq_22
            replace hk := hk.pure kq_22
            replace hm := hm.pure kq_22
            replace hw := hw.pure kq_22
            refine WL.load Tryd.isAgg44 rfl ((hv.rsl.cellsAt fe) 0 _ rfl) rfl (?_)
            refine WL.nil ?_
            exact WX.one ⟨rfl, by exact Chg.refl _ _⟩
          apply DQ.step (E' := [(15, _)])
          case ho => rfl
          case hs => exact ⟨rfl, trivial⟩
          case hk => rfl
          case h1 =>
            intro wq_23 kq_23
            refine WL.move rfl rfl (?_)
            refine WL.nil ?_
            exact WX.one ⟨rfl, by exact Chg.refl _ _⟩
          apply DQ.step (E' := [(167, _)])
          case ho => rfl
          case hs => exact ⟨rfl, trivial⟩
          case hk => rfl
          case h1 =>
            intro wq_24 kq_24
            have zs_kq_24 := kq_24.size
            replace hws := hws.pure kq_24
            replace hv := hv.pure kq_24
            replace hh := hh.pure kq_24
            replace hk := hk.pure kq_24
            replace hm := hm.pure kq_24
            replace hw := hw.pure kq_24
            refine WL.indexC hv.rsl Tryd.underlying133 Tryd.sizeOf44 rfl rfl ⟨ff, rfl⟩ rfl ?_
            refine WL.nil ?_
            exact WX.one ⟨rfl, by exact Chg.refl _ _⟩
          apply DQ.step (E' := [(168, _)])
          case ho => rfl
          case hs => exact ⟨rfl, trivial⟩
          case hk => rfl
          case h1 =>
            intro wq_25 kq_25
            have zs_kq_25 := kq_25.size
            replace hws := hws.pure kq_25
            replace hv := hv.pure kq_25
            replace hh := hh.pure kq_25
            replace hk := hk.pure kq_25
            replace hm := hm.pure kq_25
            replace hw := hw.pure kq_25
            refine WL.load Tryd.isAgg44 rfl ((hv.rsl.cellsAt ff) 0 _ rfl) rfl (?_)
            refine WL.nil ?_
            exact WX.one ⟨rfl, by exact Chg.refl _ _⟩
          apply DQ.step (E' := [(166, _), (169, _)])
          case ho => rfl
          case hs => exact ⟨rfl, rfl, trivial⟩
          case hk => rfl
          case h1 =>
            intro wq_26 kq_26
            refine WL.num rfl rfl (n_and64 _ _ _ _) rfl (?_)
            refine WL.nil ?_
            exact WX.one ⟨rfl, by exact Chg.refl _ _⟩
          apply DQ.step (E' := [(15, _)])
          case ho => rfl
          case hs => exact ⟨rfl, trivial⟩
          case hk => rfl
          case h1 =>
            intro wq_27 kq_27
            refine WL.move rfl rfl (?_)
            refine WL.nil ?_
            exact WX.one ⟨rfl, by exact Chg.refl _ _⟩
          apply DQ.step (E' := [(171, _)])
          case ho => rfl
          case hs => exact ⟨rfl, trivial⟩
          case hk => rfl
          case h1 =>
            intro wq_28 kq_28
            have zs_kq_28 := kq_28.size
            replace hws := hws.pure kq_28
            replace hv := hv.pure kq_28
            replace hh := hh.pure kq_28
            replace hk := hk.pure kq_28
            replace hm := hm.pure kq_28
            replace hw := hw.pure kq_28
            refine WL.indexC hv.rsl Tryd.underlying133 Tryd.sizeOf44 rfl rfl ⟨fe, rfl⟩ rfl ?_
            refine WL.nil ?_
            exact WX.one ⟨rfl, by exact Chg.refl _ _⟩
          apply DQ.step (E' := [(172, _)])
          case ho => rfl
          case hs => exact ⟨rfl, trivial⟩
          case hk => rfl
          case h1 =>
            intro wq_29 kq_29
            have zs_kq_29 := kq_29.size
            replace hws := hws.pure kq_29
            replace hv := hv.pure kq_29
            replace hh := hh.pure kq_29
            replace hk := hk.pure kq_29
            replace hm := hm.pure kq_29
            replace hw := hw.pure kq_29
            refine WL.load Tryd.isAgg44 rfl ((hv.rsl.cellsAt fe) 0 _ rfl) rfl (?_)
            refine WL.nil ?_
            exact WX.one ⟨rfl, by exact Chg.refl _ _⟩
          apply DQ.step (E' := [(173, _)])
          case ho => rfl
          case hs => exact ⟨rfl, trivial⟩
          case hk => rfl
          case h1 =>
            intro wq_30 kq_30
            refine WL.num rfl rfl (n_xor64 _ _ _ 4294967295) rfl (?_)
            refine WL.nil ?_
            exact WX.one ⟨rfl, by exact Chg.refl _ _⟩
          apply DQ.step (E' := [(15, _)])
          case ho => rfl
          case hs => exact ⟨rfl, trivial⟩
          case hk => rfl
          case h1 =>
            intro wq_31 kq_31
            refine WL.move rfl rfl (?_)
            refine WL.nil ?_
            exact WX.one ⟨rfl, by exact Chg.refl _ _⟩
          apply DQ.step (E' := [(175, _)])
          case ho => rfl
          case hs => exact ⟨rfl, trivial⟩
          case hk => rfl
          case h1 =>
            intro wq_32 kq_32
            have zs_kq_32 := kq_32.size
            replace hws := hws.pure kq_32
            replace hv := hv.pure kq_32
            replace hh := hh.pure kq_32
            replace hk := hk.pure kq_32
            replace hm := hm.pure kq_32
            replace hw := hw.pure kq_32
            refine WL.indexC hv.rsl Tryd.underlying133 Tryd.sizeOf44 rfl rfl ⟨fg, rfl⟩ rfl ?_
            refine WL.nil ?_
            exact WX.one ⟨rfl, by exact Chg.refl _ _⟩
          apply DQ.step (E' := [(176, _)])
          case ho => rfl
          case hs => exact ⟨rfl, trivial⟩
          case hk => rfl
          case h1 =>
            intro wq_33 kq_33
            have zs_kq_33 := kq_33.size
            replace hws := hws.pure kq_33
            replace hv := hv.pure kq_33
            replace hh := hh.pure kq_33
            replace hk := hk.pure kq_33
            replace hm := hm.pure kq_33
            replace hw := hw.pure kq_33
            refine WL.load Tryd.isAgg44 rfl ((hv.rsl.cellsAt fg) 0 _ rfl) rfl (?_)
            refine WL.nil ?_
            exact WX.one ⟨rfl, by exact Chg.refl _ _⟩
          apply DQ.step (E' := [(174, _), (177, _)])
          case ho => rfl
          case hs => exact ⟨rfl, rfl, trivial⟩
          case hk => rfl
          case h1 =>
            intro wq_34 kq_34
            refine WL.num rfl rfl (n_and64 _ _ _ _) rfl (?_)
            refine WL.nil ?_
            exact WX.one ⟨rfl, by exact Chg.refl _ _⟩
          apply DQ.step (E' := [(170, _), (178, _)])
          case ho => rfl
          case hs => exact ⟨rfl, rfl, trivial⟩
          case hk => rfl
          case h1 =>
            intro wq_35 kq_35
            refine WL.num rfl rfl (n_xor64 _ _ _ _) rfl (?_)
            refine WL.nil ?_
            exact WX.one ⟨rfl, by exact Chg.refl _ _⟩
          apply DQ.step (E' := [(163, _), (179, _)])
          case ho => rfl
          case hs => exact ⟨rfl, rfl, trivial⟩
          case hk => rfl
          case h1 =>
            intro wq_36 kq_36
            refine WL.num rfl rfl (n_add64 _ _ _ _) rfl (?_)
            refine WL.nil ?_
            exact WX.one ⟨rfl, by exact Chg.refl _ _⟩
          apply DQ.step (E' := [(5, _)])
          case ho => rfl
          case hs => exact ⟨rfl, trivial⟩
          case hk => rfl
          case h1 =>
            intro wq_37 kq_37
            refine WL.move rfl rfl (?_)
            refine WL.nil ?_
            exact WX.one ⟨rfl, by exact Chg.refl _ _⟩
          apply DQ.step (E' := [(16, _)])
          case ho => rfl
          case hs => exact ⟨rfl, trivial⟩
          case hk => rfl
          case h1 =>
            intro wq_38 kq_38
            refine WL.move rfl rfl (?_)
            refine WL.nil ?_
            exact WX.one ⟨rfl, by exact Chg.refl _ _⟩
          apply DQ.step (E' := [(181, _), (182, _)])
          case ho => rfl
          case hs => exact ⟨rfl, rfl, trivial⟩
          case hk => rfl
          case h1 =>
            intro wq_39 kq_39
            have zs_kq_39 := kq_39.size
            replace hws := hws.pure kq_39
            replace hv := hv.pure kq_39
            replace hh := hh.pure kq_39
            replace hk := hk.pure kq_39
            replace hm := hm.pure kq_39
            replace hw := hw.pure kq_39
            refine WL.indexC hk Tryd.underlying133 Tryd.sizeOf44 rfl rfl ⟨fk, rfl⟩ rfl ?_
            refine WL.nil ?_
            exact WX.one ⟨rfl, by exact Chg.refl _ _⟩
          apply DQ.step (E' := [(183, _)])
          case ho => rfl
          case hs => exact ⟨rfl, trivial⟩
          case hk => rfl
          case h1 =>
            intro wq_40 kq_40
            have zs_kq_40 := kq_40.size
            replace hws := hws.pure kq_40
            replace hv := hv.pure kq_40
            replace hh := hh.pure kq_40
            replace hk := hk.pure kq_40
            replace hm := hm.pure kq_40
            replace hw := hw.pure kq_40
            refine WL.load Tryd.isAgg44 rfl ((hk.cellsAt fk) 0 _ rfl) rfl (?_)
            refine WL.nil ?_
            exact WX.one ⟨rfl, by exact Chg.refl _ _⟩
          apply DQ.step (E' := [(180, _), (184, _)])
          case ho => rfl
          case hs => exact ⟨rfl, rfl, trivial⟩
          case hk => rfl
          case h1 =>
            intro wq_41 kq_41
            refine WL.num rfl rfl (n_add64 _ _ _ _) rfl (?_)
            refine WL.nil ?_
            exact WX.one ⟨rfl, by exact Chg.refl _ _⟩
          apply DQ.step (E' := [(9, _)])
          case ho => rfl
          case hs => exact ⟨rfl, trivial⟩
          case hk => rfl
          case h1 =>
            intro wq_42 kq_42
            refine WL.move rfl rfl (?_)
            refine WL.nil ?_
            exact WX.one ⟨rfl, by exact Chg.refl _ _⟩
          apply DQ.step (E' := [(16, _)])
          case ho => rfl
          case hs => exact ⟨rfl, trivial⟩
          case hk => rfl
          case h1 =>
            intro wq_43 kq_43
            refine WL.move rfl rfl (?_)
            refine WL.nil ?_
            exact WX.one ⟨rfl, by exact Chg.refl _ _⟩
          apply DQ.step (E' := [(186, _), (187, _)])
          case ho => rfl
          case hs => exact ⟨rfl, rfl, trivial⟩
          case hk => rfl
          case h1 =>
            intro wq_44 kq_44
            have zs_kq_44 := kq_44.size
            replace hws := hws.pure kq_44
            replace hv := hv.pure kq_44
            replace hh := hh.pure kq_44
            replace hk := hk.pure kq_44
            replace hm := hm.pure kq_44
            replace hw := hw.pure kq_44
            refine WL.indexC hws Tryd.underlying133 Tryd.sizeOf44 rfl rfl ⟨fw, rfl⟩ rfl ?_
            refine WL.nil ?_
            exact WX.one ⟨rfl, by exact Chg.refl _ _⟩
          apply DQ.step (E' := [(188, _)])
          case ho => rfl
          case hs => exact ⟨rfl, trivial⟩
          case hk => rfl
          case h1 =>
            intro wq_45 kq_45
            have zs_kq_45 := kq_45.size
            replace hws := hws.pure kq_45
            replace hv := hv.pure kq_45
            replace hh := hh.pure kq_45
            replace hk := hk.pure kq_45
            replace hm := hm.pure kq_45
            replace hw := hw.pure kq_45
            refine WL.load Tryd.isAgg44 rfl ((hws.cellsAt fw) 0 _ rfl) rfl (?_)
            refine WL.nil ?_
            exact WX.one ⟨rfl, by exact Chg.refl _ _⟩
          apply DQ.step (E' := [(185, _), (189, _)])
          case ho => rfl
          case hs => exact ⟨rfl, rfl, trivial⟩
          case hk => rfl
          case h1 =>
            intro wq_46 kq_46
            refine WL.num rfl rfl (n_add64 _ _ _ _) rfl ?_
            rw [show V.h.toUInt64 + (((rotr V.e 6).toUInt64 ^^^ (rotr V.e 11).toUInt64) ^^^ (rotr V.e 25).toUInt64) + ((V.e.toUInt64 &&& V.f.toUInt64) ^^^ ((V.e.toUInt64 ^^^ 4294967295) &&& V.g.toUInt64)) + kt.toUInt64 + wt.toUInt64 = T1r V kt wt from rfl]
            refine WL.nil ?_
            exact WX.one ⟨rfl, by exact Chg.refl _ _⟩
          apply DQ.step (E' := [(190, _)])
          case ho => rfl
          case hs => exact ⟨rfl, trivial⟩
          case hk => rfl
          case h1 =>
            intro wq_47 kq_47
            refine WL.assign rfl rfl (?_)
            refine WL.nil ?_
            exact WX.one ⟨rfl, by exact Chg.refl _ _⟩
          refine DQ.done (fun _ => ?_)
          refine DL.done (fun we_48 ke_48 => ?_)
          have zs_ke_48 := ke_48.size
          replace hws := hws.pure ke_48
          replace hv := hv.pure ke_48
          replace hh := hh.pure ke_48
          replace hk := hk.pure ke_48
          replace hm := hm.pure ke_48
          replace hw := hw.pure ke_48
          refine WX.then_normal (WC.seq (?_))
          refine WC.draw (Nob) [0, 1, 2, 3, 4, 5, 6, 7, 8, 9, 10, 11, 12, 13, 14, 15, 16, 17, 18, 19, 20, 21, 22, 23, 24, 25, 26, 27, 28, 29, 30, 31, 32, 33, 34, 35, 36, 37, 38] [] mixed rfl rfl (fun wd_49 kd_49 zd_49 => ?_)
          have zs_kd_49 := kd_49.size
          replace hws := hws.pure kd_49
          replace hv := hv.pure kd_49
          replace hh := hh.pure kd_49
          replace hk := hk.pure kd_49
          replace hm := hm.pure kd_49
          replace hw := hw.pure kd_49
          apply DQ.step (E' := [(15, _)])
          case ho => rfl
          case hs => exact ⟨rfl, trivial⟩
          case hk => rfl
          case h1 =>
            intro wq_50 kq_50
            refine WL.move rfl rfl (?_)
            refine WL.nil ?_
            exact WX.one ⟨rfl, by exact Chg.refl _ _⟩
          apply DQ.step (E' := [(191, _)])
          case ho => rfl
          case hs => exact ⟨rfl, trivial⟩
          case hk => rfl
          case h1 =>
            intro wq_51 kq_51
            have zs_kq_51 := kq_51.size
            replace hws := hws.pure kq_51
            replace hv := hv.pure kq_51
            replace hh := hh.pure kq_51
            replace hk := hk.pure kq_51
            replace hm := hm.pure kq_51
            replace hw := hw.pure kq_51
            refine WL.indexC hv.rsl Tryd.underlying133 Tryd.sizeOf44 rfl rfl ⟨fa, rfl⟩ rfl ?_
            refine WL.nil ?_
            exact WX.one ⟨rfl, by exact Chg.refl _ _⟩
          apply DQ.step (E' := [(192, _)])
          case ho => rfl
          case hs => exact ⟨rfl, trivial⟩
          case hk => rfl
          case h1 =>
            intro wq_52 kq_52
            have zs_kq_52 := kq_52.size
            replace hws := hws.pure kq_52
            replace hv := hv.pure kq_52
            replace hh := hh.pure kq_52
            replace hk := hk.pure kq_52
            replace hm := hm.pure kq_52
            replace hw := hw.pure kq_52
            refine WL.load Tryd.isAgg44 rfl ((hv.rsl.cellsAt fa) 0 _ rfl) rfl (?_)
            refine WL.nil ?_
            exact WX.one ⟨rfl, by exact Chg.refl _ _⟩
          apply DQ.step (E' := [(193, _)])
          case ho => rfl
          case hs => exact ⟨rfl, trivial⟩
          case hk => rfl
          case h1 =>
            intro wq_53 kq_53
            have zs_kq_53 := kq_53.size
            replace hws := hws.pure kq_53
            replace hv := hv.pure kq_53
            replace hh := hh.pure kq_53
            replace hk := hk.pure kq_53
            replace hm := hm.pure kq_53
            replace hw := hw.pure kq_53
            refine WL.call eg_82 rfl rfl (ror64_calls _ 2 _ (by decide)) ?_
            rintro v w8 ⟨rfl, k⟩
            have zs_k := k.size
            replace hws := hws.pure k
            replace hv := hv.pure k
            replace hh := hh.pure k
            replace hk := hk.pure k
            replace hm := hm.pure k
            replace hw := hw.pure k
            refine WL.nil ?_
            exact WX.one ⟨rfl, by assumption⟩
          apply DQ.step (E' := [(15, _)])
          case ho => rfl
          case hs => exact ⟨rfl, trivial⟩
          case hk => rfl
          case h1 =>
            intro wq_54 kq_54
            refine WL.move rfl rfl (?_)
            refine WL.nil ?_
            exact WX.one ⟨rfl, by exact Chg.refl _ _⟩
          apply DQ.step (E' := [(195, _)])
          case ho => rfl
          case hs => exact ⟨rfl, trivial⟩
          case hk => rfl
          case h1 =>
            intro wq_55 kq_55
            have zs_kq_55 := kq_55.size
            replace hws := hws.pure kq_55
            replace hv := hv.pure kq_55
            replace hh := hh.pure kq_55
            replace hk := hk.pure kq_55
            replace hm := hm.pure kq_55
            replace hw := hw.pure kq_55
            refine WL.indexC hv.rsl Tryd.underlying133 Tryd.sizeOf44 rfl rfl ⟨fa, rfl⟩ rfl ?_
            refine WL.nil ?_
            exact WX.one ⟨rfl, by exact Chg.refl _ _⟩
          apply DQ.step (E' := [(196, _)])
          case ho => rfl
          case hs => exact ⟨rfl, trivial⟩
          case hk => rfl
          case h1 =>
            intro wq_56 kq_56
            have zs_kq_56 := kq_56.size
            replace hws := hws.pure kq_56
            replace hv := hv.pure kq_56
            replace hh := hh.pure kq_56
            replace hk := hk.pure kq_56
            replace hm := hm.pure kq_56
            replace hw := hw.pure kq_56
            refine WL.load Tryd.isAgg44 rfl ((hv.rsl.cellsAt fa) 0 _ rfl) rfl (?_)
            refine WL.nil ?_
            exact WX.one ⟨rfl, by exact Chg.refl _ _⟩
          apply DQ.step (E' := [(197, _)])
          case ho => rfl
          case hs => exact ⟨rfl, trivial⟩
          case hk => rfl
          case h1 =>
            intro wq_57 kq_57
            have zs_kq_57 := kq_57.size
            replace hws := hws.pure kq_57
            replace hv := hv.pure kq_57
            replace hh := hh.pure kq_57
            replace hk := hk.pure kq_57
            replace hm := hm.pure kq_57
            replace hw := hw.pure kq_57
            refine WL.call eg_82 rfl rfl (ror64_calls _ 13 _ (by decide)) ?_
            rintro v w8 ⟨rfl, k⟩
            have zs_k := k.size
            replace hws := hws.pure k
            replace hv := hv.pure k
            replace hh := hh.pure k
            replace hk := hk.pure k
            replace hm := hm.pure k
            replace hw := hw.pure k
            refine WL.nil ?_
            exact WX.one ⟨rfl, by assumption⟩
          apply DQ.step (E' := [(194, _), (198, _)])
          case ho => rfl
          case hs => exact ⟨rfl, rfl, trivial⟩
          case hk => rfl
          case h1 =>
            intro wq_58 kq_58
            refine WL.num rfl rfl (n_xor64 _ _ _ _) rfl (?_)
            refine WL.nil ?_
            exact WX.one ⟨rfl, by exact Chg.refl _ _⟩
          apply DQ.step (E' := [(15, _)])
          case ho => rfl
          case hs => exact ⟨rfl, trivial⟩
          case hk => rfl
          case h1 =>
            intro wq_59 kq_59
            refine WL.move rfl rfl (?_)
            refine WL.nil ?_
            exact WX.one ⟨rfl, by exact Chg.refl _ _⟩
          apply DQ.step (E' := [(200, _)])
          case ho => rfl
          case hs => exact ⟨rfl, trivial⟩
          case hk => rfl
          case h1 =>
            intro wq_60 kq_60
            have zs_kq_60 := kq_60.size
            replace hws := hws.pure kq_60
            replace hv := hv.pure kq_60
            replace hh := hh.pure kq_60
            replace hk := hk.pure kq_60
            replace hm := hm.pure kq_60
            replace hw := hw.pure kq_60
            refine WL.indexC hv.rsl Tryd.underlying133 Tryd.sizeOf44 rfl rfl ⟨fa, rfl⟩ rfl ?_
            refine WL.nil ?_
            exact WX.one ⟨rfl, by exact Chg.refl _ _⟩
          apply DQ.step (E' := [(201, _)])
          case ho => rfl
          case hs => exact ⟨rfl, trivial⟩
          case hk => rfl
          case h1 =>
            intro wq_61 kq_61
            have zs_kq_61 := kq_61.size
            replace hws := hws.pure kq_61
            replace hv := hv.pure kq_61
            replace hh := hh.pure kq_61
            replace hk := hk.pure kq_61
            replace hm := hm.pure kq_61
            replace hw := hw.pure kq_61
            refine WL.load Tryd.isAgg44 rfl ((hv.rsl.cellsAt fa) 0 _ rfl) rfl (?_)
            refine WL.nil ?_
            exact WX.one ⟨rfl, by exact Chg.refl _ _⟩
          apply DQ.step (E' := [(202, _)])
          case ho => rfl
          case hs => exact ⟨rfl, trivial⟩
          case hk => rfl
          case h1 =>
            intro wq_62 kq_62
            have zs_kq_62 := kq_62.size
            replace hws := hws.pure kq_62
            replace hv := hv.pure kq_62
            replace hh := hh.pure kq_62
            replace hk := hk.pure kq_62
            replace hm := hm.pure kq_62
            replace hw := hw.pure kq_62
            refine WL.call eg_82 rfl rfl (ror64_calls _ 22 _ (by decide)) ?_
            rintro v w8 ⟨rfl, k⟩
            have zs_k := k.size
            replace hws := hws.pure k
            replace hv := hv.pure k
            replace hh := hh.pure k
            replace hk := hk.pure k
            replace hm := hm.pure k
            replace hw := hw.pure k
            refine WL.nil ?_
            exact WX.one ⟨rfl, by assumption⟩
          apply DQ.step (E' := [(199, _), (203, _)])
          case ho => rfl
          case hs => exact ⟨rfl, rfl, trivial⟩
          case hk => rfl
          case h1 =>
            intro wq_63 kq_63
            refine WL.num rfl rfl (n_xor64 _ _ _ _) rfl (?_)
            refine WL.nil ?_
            exact WX.one ⟨rfl, by exact Chg.refl _ _⟩
          apply DQ.step (E' := [(15, _)])
          case ho => rfl
          case hs => exact ⟨rfl, trivial⟩
          case hk => rfl
          case h1 =>
            intro wq_64 kq_64
            refine WL.move rfl rfl (?_)
            refine WL.nil ?_
            exact WX.one ⟨rfl, by exact Chg.refl _ _⟩
          apply DQ.step (E' := [(205, _)])
          case ho => rfl
          case hs => exact ⟨rfl, trivial⟩
          case hk => rfl
          case h1 =>
            intro wq_65 kq_65
            have zs_kq_65 := kq_65.size
            replace hws := hws.pure kq_65
            replace hv := hv.pure kq_65
            replace hh := hh.pure kq_65
            replace hk := hk.pure kq_65
            replace hm := hm.pure kq_65
            replace hw := hw.pure kq_65
            refine WL.indexC hv.rsl Tryd.underlying133 Tryd.sizeOf44 rfl rfl ⟨fa, rfl⟩ rfl ?_
            refine WL.nil ?_
            exact WX.one ⟨rfl, by exact Chg.refl _ _⟩
          apply DQ.step (E' := [(206, _)])
          case ho => rfl
          case hs => exact ⟨rfl, trivial⟩
          case hk => rfl
          case h1 =>
            intro wq_66 kq_66
            have zs_kq_66 := kq_66.size
            replace hws := hws.pure kq_66
            replace hv := hv.pure kq_66
            replace hh := hh.pure kq_66
            replace hk := hk.pure kq_66
            replace hm := hm.pure kq_66
            replace hw := hw.pure kq_66
            refine WL.load Tryd.isAgg44 rfl ((hv.rsl.cellsAt fa) 0 _ rfl) rfl (?_)
            refine WL.nil ?_
            exact WX.one ⟨rfl, by exact Chg.refl _ _⟩
          apply DQ.step (E' := [(15, _)])
          case ho => rfl
          case hs => exact ⟨rfl, trivial⟩
          case hk => rfl
          case h1 =>
            intro wq_67 kq_67
            refine WL.move rfl rfl (?_)
            refine WL.nil ?_
            exact WX.one ⟨rfl, by exact Chg.refl _ _⟩
          apply DQ.step (E' := [(208, _)])
          case ho => rfl
          case hs => exact ⟨rfl, trivial⟩
          case hk => rfl
          case h1 =>
            intro wq_68 kq_68
            have zs_kq_68 := kq_68.size
            replace hws := hws.pure kq_68
            replace hv := hv.pure kq_68
            replace hh := hh.pure kq_68
            replace hk := hk.pure kq_68
            replace hm := hm.pure kq_68
            replace hw := hw.pure kq_68
            refine WL.indexC hv.rsl Tryd.underlying133 Tryd.sizeOf44 rfl rfl ⟨fb, rfl⟩ rfl ?_
            refine WL.nil ?_
            exact WX.one ⟨rfl, by exact Chg.refl _ _⟩
          apply DQ.step (E' := [(209, _)])
          case ho => rfl
          case hs => exact ⟨rfl, trivial⟩
          case hk => rfl
          case h1 =>
            intro wq_69 kq_69
            have zs_kq_69 := kq_69.size
            replace hws := hws.pure kq_69
            replace hv := hv.pure kq_69
            replace hh := hh.pure kq_69
            replace hk := hk.pure kq_69
            replace hm := hm.pure kq_69
            replace hw := hw.pure kq_69
            refine WL.load Tryd.isAgg44 rfl ((hv.rsl.cellsAt fb) 0 _ rfl) rfl (?_)
            refine WL.nil ?_
            exact WX.one ⟨rfl, by exact Chg.refl _ _⟩
          apply DQ.step (E' := [(207, _), (210, _)])
          case ho => rfl
          case hs => exact ⟨rfl, rfl, trivial⟩
          case hk => rfl
          case h1 =>
            intro wq_70 kq_70
            refine WL.num rfl rfl (n_and64 _ _ _ _) rfl (?_)
            refine WL.nil ?_
            exact WX.one ⟨rfl, by exact Chg.refl _ _⟩
          apply DQ.step (E' := [(15, _)])
          case ho => rfl
          case hs => exact ⟨rfl, trivial⟩
          case hk => rfl
          case h1 =>
            intro wq_71 kq_71
            refine WL.move rfl rfl (?_)
            refine WL.nil ?_
            exact WX.one ⟨rfl, by exact Chg.refl _ _⟩
          apply DQ.step (E' := [(212, _)])
          case ho => rfl
          case hs => exact ⟨rfl, trivial⟩
          case hk => rfl
          case h1 =>
            intro wq_72 kq_72
            have zs_kq_72 := kq_72.size
            replace hws := hws.pure kq_72
            replace hv := hv.pure kq_72
            replace hh := hh.pure kq_72
            replace hk := hk.pure kq_72
            replace hm := hm.pure kq_72
            replace hw := hw.pure kq_72
            refine WL.indexC hv.rsl Tryd.underlying133 Tryd.sizeOf44 rfl rfl ⟨fa, rfl⟩ rfl ?_
            refine WL.nil ?_
            exact WX.one ⟨rfl, by exact Chg.refl _ _⟩
          apply DQ.step (E' := [(213, _)])
          case ho => rfl
          case hs => exact ⟨rfl, trivial⟩
          case hk => rfl
          case h1 =>
            intro wq_73 kq_73
            have zs_kq_73 := kq_73.size
            replace hws := hws.pure kq_73
            replace hv := hv.pure kq_73
            replace hh := hh.pure kq_73
            replace hk := hk.pure kq_73
            replace hm := hm.pure kq_73
            replace hw := hw.pure kq_73
            refine WL.load Tryd.isAgg44 rfl ((hv.rsl.cellsAt fa) 0 _ rfl) rfl (?_)
            refine WL.nil ?_
            exact WX.one ⟨rfl, by exact Chg.refl _ _⟩
          apply DQ.step (E' := [(15, _)])
          case ho => rfl
          case hs => exact ⟨rfl, trivial⟩
          case hk => rfl
          case h1 =>
            intro wq_74 kq_74
            refine WL.move rfl rfl (?_)
            refine WL.nil ?_
            exact WX.one ⟨rfl, by exact Chg.refl _ _⟩
          apply DQ.step (E' := [(215, _)])
          case ho => rfl
          case hs => exact ⟨rfl, trivial⟩
          case hk => rfl
          case h1 =>
            intro wq_75 kq_75
            have zs_kq_75 := kq_75.size
            replace hws := hws.pure kq_75
            replace hv := hv.pure kq_75
            replace hh := hh.pure kq_75
            replace hk := hk.pure kq_75
            replace hm := hm.pure kq_75
            replace hw := hw.pure kq_75
            refine WL.indexC hv.rsl Tryd.underlying133 Tryd.sizeOf44 rfl rfl ⟨fc, rfl⟩ rfl ?_
            refine WL.nil ?_
            exact WX.one ⟨rfl, by exact Chg.refl _ _⟩
          apply DQ.step (E' := [(216, _)])
          case ho => rfl
          case hs => exact ⟨rfl, trivial⟩
          case hk => rfl
          case h1 =>
            intro wq_76 kq_76
            have zs_kq_76 := kq_76.size
            replace hws := hws.pure kq_76
            replace hv := hv.pure kq_76
            replace hh := hh.pure kq_76
            replace hk := hk.pure kq_76
            replace hm := hm.pure kq_76
            replace hw := hw.pure kq_76
            refine WL.load Tryd.isAgg44 rfl ((hv.rsl.cellsAt fc) 0 _ rfl) rfl (?_)
            refine WL.nil ?_
            exact WX.one ⟨rfl, by exact Chg.refl _ _⟩
          apply DQ.step (E' := [(214, _), (217, _)])
          case ho => rfl
          case hs => exact ⟨rfl, rfl, trivial⟩
          case hk => rfl
          case h1 =>
            intro wq_77 kq_77
            refine WL.num rfl rfl (n_and64 _ _ _ _) rfl (?_)
            refine WL.nil ?_
            exact WX.one ⟨rfl, by exact Chg.refl _ _⟩
          apply DQ.step (E' := [(211, _), (218, _)])
          case ho => rfl
          case hs => exact ⟨rfl, rfl, trivial⟩
          case hk => rfl
          case h1 =>
            intro wq_78 kq_78
            refine WL.num rfl rfl (n_xor64 _ _ _ _) rfl (?_)
            refine WL.nil ?_
            exact WX.one ⟨rfl, by exact Chg.refl _ _⟩
          apply DQ.step (E' := [(15, _)])
          case ho => rfl
          case hs => exact ⟨rfl, trivial⟩
          case hk => rfl
          case h1 =>
            intro wq_79 kq_79
            refine WL.move rfl rfl (?_)
            refine WL.nil ?_
            exact WX.one ⟨rfl, by exact Chg.refl _ _⟩
          apply DQ.step (E' := [(220, _)])
          case ho => rfl
          case hs => exact ⟨rfl, trivial⟩
          case hk => rfl
          case h1 =>
            intro wq_80 kq_80
            have zs_kq_80 := kq_80.size
            replace hws := hws.pure kq_80
            replace hv := hv.pure kq_80
            replace hh := hh.pure kq_80
            replace hk := hk.pure kq_80
            replace hm := hm.pure kq_80
            replace hw := hw.pure kq_80
            refine WL.indexC hv.rsl Tryd.underlying133 Tryd.sizeOf44 rfl rfl ⟨fb, rfl⟩ rfl ?_
            refine WL.nil ?_
            exact WX.one ⟨rfl, by exact Chg.refl _ _⟩
          apply DQ.step (E' := [(221, _)])
          case ho => rfl
          case hs => exact ⟨rfl, trivial⟩
          case hk => rfl
          case h1 =>
            intro wq_81 kq_81
            have zs_kq_81 := kq_81.size
            replace hws := hws.pure kq_81
            replace hv := hv.pure kq_81
            replace hh := hh.pure kq_81
            replace hk := hk.pure kq_81
            replace hm := hm.pure kq_81
            replace hw := hw.pure kq_81
            refine WL.load Tryd.isAgg44 rfl ((hv.rsl.cellsAt fb) 0 _ rfl) rfl (?_)
            refine WL.nil ?_
            exact WX.one ⟨rfl, by exact Chg.refl _ _⟩
          apply DQ.step (E' := [(15, _)])
          case ho => rfl
          case hs => exact ⟨rfl, trivial⟩
          case hk => rfl
          case h1 =>
            intro wq_82 kq_82
            refine WL.move rfl rfl (?_)
            refine WL.nil ?_
            exact WX.one ⟨rfl, by exact Chg.refl _ _⟩
          apply DQ.step (E' := [(223, _)])
          case ho => rfl
          case hs => exact ⟨rfl, trivial⟩
          case hk => rfl
          case h1 =>
            intro wq_83 kq_83
            have zs_kq_83 := kq_83.size
            replace hws := hws.pure kq_83
            replace hv := hv.pure kq_83
            replace hh := hh.pure kq_83
            replace hk := hk.pure kq_83
            replace hm := hm.pure kq_83
            replace hw := hw.pure kq_83
            refine WL.indexC hv.rsl Tryd.underlying133 Tryd.sizeOf44 rfl rfl ⟨fc, rfl⟩ rfl ?_
            refine WL.nil ?_
            exact WX.one ⟨rfl, by exact Chg.refl _ _⟩
          apply DQ.step (E' := [(224, _)])
          case ho => rfl
          case hs => exact ⟨rfl, trivial⟩
          case hk => rfl
          case h1 =>
            intro wq_84 kq_84
            have zs_kq_84 := kq_84.size
            replace hws := hws.pure kq_84
            replace hv := hv.pure kq_84
            replace hh := hh.pure kq_84
            replace hk := hk.pure kq_84
            replace hm := hm.pure kq_84
            replace hw := hw.pure kq_84
            refine WL.load Tryd.isAgg44 rfl ((hv.rsl.cellsAt fc) 0 _ rfl) rfl (?_)
            refine WL.nil ?_
            exact WX.one ⟨rfl, by exact Chg.refl _ _⟩
          apply DQ.step (E' := [(222, _), (225, _)])
          case ho => rfl
          case hs => exact ⟨rfl, rfl, trivial⟩
          case hk => rfl
          case h1 =>
            intro wq_85 kq_85
            refine WL.num rfl rfl (n_and64 _ _ _ _) rfl (?_)
            refine WL.nil ?_
            exact WX.one ⟨rfl, by exact Chg.refl _ _⟩
          apply DQ.step (E' := [(219, _), (226, _)])
          case ho => rfl
          case hs => exact ⟨rfl, rfl, trivial⟩
          case hk => rfl
          case h1 =>
            intro wq_86 kq_86
            refine WL.num rfl rfl (n_xor64 _ _ _ _) rfl (?_)
            refine WL.nil ?_
            exact WX.one ⟨rfl, by exact Chg.refl _ _⟩
          apply DQ.step (E' := [(204, _), (227, _)])
          case ho => rfl
          case hs => exact ⟨rfl, rfl, trivial⟩
          case hk => rfl
          case h1 =>
            intro wq_87 kq_87
            refine WL.num rfl rfl (n_add64 _ _ _ _) rfl ?_
            rw [show (((rotr V.a 2).toUInt64 ^^^ (rotr V.a 13).toUInt64) ^^^ (rotr V.a 22).toUInt64) + (((V.a.toUInt64 &&& V.b.toUInt64) ^^^ (V.a.toUInt64 &&& V.c.toUInt64)) ^^^ (V.b.toUInt64 &&& V.c.toUInt64)) = T2r V from rfl]
            refine WL.nil ?_
            exact WX.one ⟨rfl, by exact Chg.refl _ _⟩
          apply DQ.step (E' := [(228, _)])
          case ho => rfl
          case hs => exact ⟨rfl, trivial⟩
          case hk => rfl
          case h1 =>
            intro wq_88 kq_88
            refine WL.assign rfl rfl (?_)
            refine WL.nil ?_
            exact WX.one ⟨rfl, by exact Chg.refl _ _⟩
          refine DQ.done (fun _ => ?_)
          refine DL.done (fun we_89 ke_89 => ?_)
          have zs_ke_89 := ke_89.size
          replace hws := hws.pure ke_89
          replace hv := hv.pure ke_89
          replace hh := hh.pure ke_89
          replace hk := hk.pure ke_89
          replace hm := hm.pure ke_89
          replace hw := hw.pure ke_89
          refine WX.then_normal (WC.seq (WC.region (WL.move rfl rfl (WL.move rfl rfl (WL.num rfl rfl (n_add64 _ _ _ _) rfl (WL.num rfl rfl (n_and64 _ _ _ 4294967295) rfl (?_)))))))
          refine WL.build (e := e64) [(T1r V kt wt + T2r V) &&& 4294967295] Tryd.underlying133 Tryd.sizeOf44 Tryd.zeroValue44 rfl rfl rfl (by simp [Value.cells] <;> rfl) (by decide) rfl ?_
          intro a_hA w_hA hA l_hA z_hA k_hA
          have zs_k_hA := k_hA.size
          replace hws := hws.pure k_hA
          replace hv := hv.pure k_hA
          replace hh := hh.pure k_hA
          replace hk := hk.pure k_hA
          replace hm := hm.pure k_hA
          replace hw := hw.pure k_hA
          refine WL.move rfl rfl (?_)
          refine WL.slice (l := 0) (h := 7) (k := .i64) Tryd.underlying133 Tryd.sizeOf44 hv.rsl rfl (.inr ⟨rfl, rfl⟩) (.inl rfl) (by constructor; decide; show 7 ≤ 8; decide) rfl ?_
          intro a_hc c_hc hc n_hc
          rw [show ((UL V).take 7).drop 0 = [V.a.toUInt64, V.b.toUInt64, V.c.toUInt64, V.d.toUInt64, V.e.toUInt64, V.f.toUInt64, V.g.toUInt64] from rfl] at hc ⊢
          refine WL.append (e := e64) info_44 rfl Tryd.underlying133 rfl rfl hA (hc.src Tryd.underlying133) (by (try simp only [List.length_append, List.length_cons, List.length_nil] at *); omega) (by intro b hb; first | (apply hS; omega) | ((try dsimp only); omega)) rfl ?_
          intro a_hB c_hB w_hB hB g_hB n_hB
          have z_hB := g_hB.chg.size
          have zs_g_hB_chg := g_hB.chg.size
          replace hws := hws.chg g_hB.chg (by intros; exfalso; (try dsimp only at *); omega)
          replace hh := hh.chg g_hB.chg (by intros; exfalso; (try dsimp only at *); omega)
          replace hk := hk.chg g_hB.chg (by intros; exfalso; (try dsimp only at *); omega)
          replace hm := hm.chg g_hB.chg (by intros; exfalso; (try dsimp only at *); omega)
          replace hw := hw.chg g_hB.chg (by intros; exfalso; (try dsimp only at *); omega)
          obtain ⟨NL, hNL⟩ : ∃ NL, NL = [(T1r V kt wt + T2r V) &&& 4294967295] ++ [V.a.toUInt64, V.b.toUInt64, V.c.toUInt64, V.d.toUInt64, V.e.toUInt64, V.f.toUInt64, V.g.toUInt64] := ⟨_, rfl⟩
          have hN8 : NL.length = 8 := by rw [hNL]; rfl
          have fd : NL[4]? = some V.d.toUInt64 := by rw [hNL]; rfl
          rw [← hNL] at hB ⊢
          replace hB : Row (fun x => n3 ≤ x) _ 44 e64 a_hB c_hB NL := hB.mono (fun x hx => by omega)
          obtain ⟨gB, hgB⟩ := hB.place0 (j := 0) (by omega)
          subst hgB
          have hgB2 := hB.at_ _ rfl
          dsimp only at hgB2
          refine WL.assign rfl rfl (WL.nil (WX.then_normal (WC.region (WL.move rfl rfl (WL.move rfl rfl (?_))))))
          refine WL.indexT Tryd.underlying133 Tryd.sizeOf44 hB.rsl rfl rfl ⟨fd, rfl⟩ rfl ?_
          intro b_90 o_90 hc_90
          refine WL.load Tryd.isAgg44 rfl (hc_90 0 _ rfl) rfl (WL.move rfl rfl (WL.num rfl rfl (n_add64 _ _ _ _) rfl (WL.num rfl rfl (n_and64 _ _ _ 4294967295) rfl (?_))))
          refine WL.indexC hB.rsl Tryd.underlying133 Tryd.sizeOf44 rfl rfl ⟨fd, rfl⟩ rfl ?_
          refine WL.storeRow (z := (V.d.toUInt64 + T1r V kt wt) &&& 4294967295) (4) Tryd.sizeOf44 hB rfl rfl rfl (by show 0 + _ * 1 = _; omega) (by omega) rfl ?_
          intro w_91 zs_91 nr_91 k_91
          have zs_k_91 := k_91.size
          replace hws := hws.chg k_91 (by intro b h1 h2 h3; have h4 : _ = _ := h3; (try dsimp only at h2); exfalso; omega)
          replace hh := hh.chg k_91 (by intro b h1 h2 h3; have h4 : _ = _ := h3; (try dsimp only at h2); exfalso; omega)
          replace hk := hk.chg k_91 (by intro b h1 h2 h3; have h4 : _ = _ := h3; (try dsimp only at h2); exfalso; omega)
          replace hm := hm.chg k_91 (by intro b h1 h2 h3; have h4 : _ = _ := h3; (try dsimp only at h2); exfalso; omega)
          replace hw := hw.chg k_91 (by intro x h1 h2; have h3 : _ = _ := h2; exfalso; omega)
          replace hB := nr_91
          refine WL.nil (WX.block_normal (WX.then_normal (WC.region (WL.move rfl rfl (WL.add64 rfl rfl (by omega) rfl (WL.assign rfl rfl (WL.nil (?_))))))))
          first
            | (refine WX.loop_next (i + 1, (ah3, ch3), (ak2, ck2)) ⟨rfl, rfl, rfl, rfl, rfl, trivial⟩ ⟨by dsimp only; omega, by omega, hwn, hp, hh3, hk3, hw⟩ (by show _ - _ < _ - _; omega))
            | (have h8 : (UL st0).take i = (UL st0).take (i + 1) := by rw [List.take_of_length_le (by show 8 ≤ i; omega), List.take_of_length_le (by show 8 ≤ i + 1; omega)]
               rw [h8] at hh2
               refine WX.loop_next (i + 1, (ah, ch), (ak2, ck2)) ⟨rfl, rfl, by dsimp only; rw [← h8]; rfl, rfl, rfl, trivial⟩ ⟨by dsimp only; omega, by omega, hwn, hp, hh2, hk2, hw⟩ (by show _ - _ < _ - _; omega))
            | (refine WX.loop_next (i + 1) ⟨rfl, rfl, rfl, rfl, rfl, rfl, rfl, rfl, trivial⟩ ⟨by omega, hn7, hv, hh, hk, hm, hw⟩ (by show _ - _ < _ - _; omega))
            | (have e1 := WU_next B t
               refine WX.loop_next (t + 1, a_hv2, c_hv2) ⟨rfl, rfl, rfl, rfl, ?_, rfl, trivial⟩ ⟨by dsimp only; omega, by omega, ?_, hh, hk, hm, hw⟩ (by show _ - _ < _ - _; omega)
               ·
                 dsimp only; rw [e1]; rfl
               ·
                 dsimp only; rw [e1]; exact hv2)
            | (have e1 : UL (roundsN WS V0 (r + 1)) = NL.set 4 ((V.d.toUInt64 + T1r V kt wt) &&& 4294967295) := by
                 rw [roundsN, ← hV, ← hwt, ← hkt, round_up, hNL]
                 rfl
               refine WX.loop_next (r + 1, some ⟨gB, 0, none⟩, c_hB) ⟨rfl, rfl, rfl, rfl, rfl, ?_, rfl, trivial⟩ ⟨by dsimp only; omega, by omega, hws, ?_, hh, hk, hm, hw⟩ (by show _ - _ < _ - _; omega)
               ·
                 dsimp only; rw [e1, List.length_set]; rfl
               ·
                 dsimp only; rw [e1]; exact hB)
            | (refine WX.loop_next (i + 1) ⟨?_, rfl, rfl, rfl, rfl, rfl, trivial⟩ ⟨by omega, by omega, hv, hh, hk, hm, hw⟩ (by show _ - _ < _ - _; omega)
               show some (Value.slice (some ⟨gh, 0, none⟩) (List.map UInt32.toUInt64 (addTo V0 V i)).length ch) = some (Value.slice (some ⟨gh, 0, none⟩) (List.map UInt32.toUInt64 (addTo V0 V (i + 1))).length ch)
               rw [hal2, List.length_map, addTo_len V0 V (i + 1) (by omega)])
            | (have hi8 : i = 8 := by omega
               subst hi8
               obtain ⟨V1, hV1⟩ : ∃ V1, V1 = mix V0 B := ⟨_, rfl⟩
               have e1 : (addTo V0 V 8).map UInt32.toUInt64 = UL V1 := by
                 rw [hV1, mix_eq, ← hWS, ← hV]
                 rfl
               rw [e1] at hh ⊢
               have e2 : ((64 * (j + 1) : Nat) : Int) = ((64 * j : Nat) : Int) + 64 := by omega
               refine WX.loop_next (V1, j + 1) ⟨rfl, rfl, rfl, ?_, trivial⟩ ⟨by dsimp only; omega, by omega, ?_, hh, hk, hm, hw⟩ (by show M.length - 64 * (j + 1) < M.length - 64 * j; omega)
               ·
                 dsimp only; rw [e2]; rfl
               ·
                 dsimp only
                 rw [← hcomp, comp_more (s := V0) (ms := M.drop (64 * j)) (by rw [List.length_drop]; omega), ← eB, ← hV1, List.drop_drop]
                 rfl)
            | (have e1 : (V0.list.take (i + 1)).flatMap bytes4 = (V0.list.take i).flatMap bytes4 ++ bytes4 (V0.list.getD i 0) := by
                 rw [List.take_add_one, fx0, List.flatMap_append]
                 simp
               refine WX.loop_next (i + 1, a_ho2, c_ho2) ⟨rfl, ?_, rfl, trivial⟩ ⟨by dsimp only; omega, by omega, ?_, hh, hw⟩ (by show _ - _ < _ - _; omega)
               ·
                 dsimp only; rw [e1]; rfl
               ·
                 dsimp only; rw [e1]; exact ho2)
        ·
          refine WL.nil (WX.then_normal (WC.cond_false rfl (WC.exit (WX.then_exit (WX.then_exit (WX.block_here (WX.then_normal (?_))))))))
          refine WC.seq (WC.region (WL.assign rfl rfl (WL.nil (WX.then_normal (WC.block (?_))))))
          have hr64 : r = 64 := by omega
          subst hr64
          obtain ⟨V, hV⟩ : ∃ V, V = roundsN WS V0 64 := ⟨_, rfl⟩
          rw [← hV] at hv ⊢
          refine WC.loop (σ := Nat) (fun i => [(4, .slice (some ⟨gh, 0, none⟩) ((addTo V0 V i).map UInt32.toUInt64).length ch), (5, .slice ak K64.length ck), (7, .slice am M.length cm), (8, vi ((64 * j : Nat) : Int)), (15, .slice av (UL V).length cv), (19, vi i)])
            (fun i w' => i ≤ 8 ∧ n3 ≤ w'.heap.size ∧ RSl (fun x => n3 ≤ x) w' e64 av cv (UL V) ∧ Row (fun b => b = gh) w' 44 e64 (some ⟨gh, 0, none⟩) ch ((addTo V0 V i).map UInt32.toUInt64) ∧ RSl (fun b => b < n2 ∧ b ≠ gh) w' e64 ak ck K64 ∧ RSl (fun b => b < n2 ∧ b ≠ gh) w' eb am cm M ∧ Chg Nob w w') (fun i => 8 - i)
            0 ⟨rfl, rfl, rfl, rfl, rfl, rfl, trivial⟩ ⟨Nat.zero_le _, hn7, hv.rsl, hh, hk, hm, hw⟩ ?_
          clear hws hv hh hk hm hw
          rintro i w8 ⟨hi, hn8, hv, hh, hk, hm, hw⟩
          have hal := addTo_len V0 V i hi
          have hal2 : ((addTo V0 V i).map UInt32.toUInt64).length = 8 := by rw [List.length_map]; exact hal
          refine WC.seq (WC.seq (WC.region (WL.move rfl rfl (?_))))
          refine WL.lss? rfl rfl rfl (fun h246 => ?_) (fun h246 => ?_)
          ·
            refine WL.nil (WX.then_normal (WC.cond_true rfl (WC.skip (WX.then_normal (WC.seq (WC.block (?_)))))))
            obtain ⟨f1, f2, f3⟩ := addTo_at (s := V0) (v := V) (i := i) (by omega)
            have g1 := map_at UInt32.toUInt64 f1
            have g2 := map_at UInt32.toUInt64 f2
            obtain ⟨gv, ov, rfl⟩ := hv.place g2
            refine WC.draw (fun x => x = gh) [0, 1, 2, 3, 4, 6, 7, 8, 9, 12] [5, 10, 11, 13] mixed rfl rfl (fun wd_1 kd_1 zd_1 => ?_)
            have zs_kd_1 := kd_1.size
            replace hv := hv.pure kd_1
            replace hh := hh.pure kd_1
            replace hk := hk.pure kd_1
            replace hm := hm.pure kd_1
            replace hw := hw.pure kd_1
            apply DQ.step (E' := [(4, _)])
            case ho => rfl
            case hs => exact ⟨rfl, trivial⟩
            case hk => rfl
            case h1 =>
              intro wq_3 kq_3
              refine WL.move rfl rfl (?_)
              refine WL.nil ?_
              exact WX.one ⟨rfl, by exact Chg.refl _ _⟩
            apply DQ.step (E' := [(19, _)])
            case ho => rfl
            case hs => exact ⟨rfl, trivial⟩
            case hk => rfl
            case h1 =>
              intro wq_4 kq_4
              refine WL.move rfl rfl (?_)
              refine WL.nil ?_
              exact WX.one ⟨rfl, by exact Chg.refl _ _⟩
            apply DQ.step (E' := [(4, _)])
            case ho => rfl
            case hs => exact ⟨rfl, trivial⟩
            case hk => rfl
            case h1 =>
              intro wq_5 kq_5
              refine WL.move rfl rfl (?_)
              refine WL.nil ?_
              exact WX.one ⟨rfl, by exact Chg.refl _ _⟩
            apply DQ.step (E' := [(19, _)])
            case ho => rfl
            case hs => exact ⟨rfl, trivial⟩
            case hk => rfl
            case h1 =>
              intro wq_6 kq_6
              refine WL.move rfl rfl (?_)
              refine WL.nil ?_
              exact WX.one ⟨rfl, by exact Chg.refl _ _⟩
            apply DQ.step (E' := [(251, _), (252, _)])
            case ho => rfl
            case hs => exact ⟨rfl, rfl, trivial⟩
            case hk => rfl
            case h1 =>
              intro wq_7 kq_7
              have zs_kq_7 := kq_7.size
              replace hv := hv.chg kq_7 (by intro b h1 h2 h3; have h4 : _ = _ := h3; (try dsimp only at h2); exfalso; omega)
              replace hk := hk.chg kq_7 (by intro b h1 h2 h3; have h4 : _ = _ := h3; (try dsimp only at h2); exfalso; omega)
              replace hm := hm.chg kq_7 (by intro b h1 h2 h3; have h4 : _ = _ := h3; (try dsimp only at h2); exfalso; omega)
              refine WL.index (sz := 1) Tryd.underlying133 Tryd.sizeOf44 rfl rfl rfl (by rw [List.length_map]; omega) rfl ?_
              refine WL.nil ?_
              exact WX.one ⟨rfl, by exact Chg.refl _ _⟩
            apply DQ.step (E' := [(15, _)])
            case ho => rfl
            case hs => exact ⟨rfl, trivial⟩
            case hk => rfl
            case h1 =>
              intro wq_8 kq_8
              refine WL.move rfl rfl (?_)
              refine WL.nil ?_
              exact WX.one ⟨rfl, by exact Chg.refl _ _⟩
            apply DQ.step (E' := [(19, _)])
            case ho => rfl
            case hs => exact ⟨rfl, trivial⟩
            case hk => rfl
            case h1 =>
              intro wq_9 kq_9
              refine WL.move rfl rfl (?_)
              refine WL.nil ?_
              exact WX.one ⟨rfl, by exact Chg.refl _ _⟩
            apply DQ.step (E' := [(255, _), (256, _)])
            case ho => rfl
            case hs => exact ⟨rfl, rfl, trivial⟩
            case hk => rfl
            case h1 =>
              intro wq_10 kq_10
              have zs_kq_10 := kq_10.size
              replace hv := hv.chg kq_10 (by intro b h1 h2 h3; have h4 : _ = _ := h3; (try dsimp only at h2); exfalso; omega)
              replace hk := hk.chg kq_10 (by intro b h1 h2 h3; have h4 : _ = _ := h3; (try dsimp only at h2); exfalso; omega)
              replace hm := hm.chg kq_10 (by intro b h1 h2 h3; have h4 : _ = _ := h3; (try dsimp only at h2); exfalso; omega)
              refine WL.indexC hv Tryd.underlying133 Tryd.sizeOf44 rfl rfl ⟨g2, rfl⟩ rfl ?_
              refine WL.nil ?_
              exact WX.one ⟨rfl, by exact Chg.refl _ _⟩
            apply DQ.step (E' := [(257, _)])
            case ho => rfl
            case hs => exact ⟨rfl, trivial⟩
            case hk => rfl
            case h1 =>
              intro wq_11 kq_11
              have zs_kq_11 := kq_11.size
              replace hv := hv.chg kq_11 (by intro b h1 h2 h3; have h4 : _ = _ := h3; (try dsimp only at h2); exfalso; omega)
              replace hk := hk.chg kq_11 (by intro b h1 h2 h3; have h4 : _ = _ := h3; (try dsimp only at h2); exfalso; omega)
              replace hm := hm.chg kq_11 (by intro b h1 h2 h3; have h4 : _ = _ := h3; (try dsimp only at h2); exfalso; omega)
              refine WL.load Tryd.isAgg44 rfl ((hv.cellsAt g2) 0 _ rfl) rfl (?_)
              refine WL.nil ?_
              exact WX.one ⟨rfl, by exact Chg.refl _ _⟩
            apply DQ.step (E' := [(249, _), (250, _)])
            case ho => rfl
            case hs => exact ⟨rfl, rfl, trivial⟩
            case hk => rfl
            case h1 =>
              intro wq_12 kq_12
              have zs_kq_12 := kq_12.size
              replace hv := hv.chg kq_12 (by intro b h1 h2 h3; have h4 : _ = _ := h3; (try dsimp only at h2); exfalso; omega)
              replace hk := hk.chg kq_12 (by intro b h1 h2 h3; have h4 : _ = _ := h3; (try dsimp only at h2); exfalso; omega)
              replace hm := hm.chg kq_12 (by intro b h1 h2 h3; have h4 : _ = _ := h3; (try dsimp only at h2); exfalso; omega)
              refine WL.index (sz := 1) Tryd.underlying133 Tryd.sizeOf44 rfl rfl rfl (by rw [List.length_map]; omega) rfl ?_
              refine WL.nil ?_
              exact WX.one ⟨rfl, by exact Chg.refl _ _⟩
            refine DQ.done (fun hd_2 => ?_)
            refine DL.step [(253, _)] rfl ⟨rfl, trivial⟩ rfl (fun wq_13 kq_13 => ?_)
            have zs_kq_13 := kq_13.size
            replace hv := hv.pure kq_13
            replace hh := hh.pure kq_13
            replace hk := hk.pure kq_13
            replace hm := hm.pure kq_13
            replace hw := hw.pure kq_13
            replace hd_2 := hd_2.pure kq_13
            refine WL.load Tryd.isAgg44 rfl ((hh.rsl.cellsAt g1) 0 _ rfl) rfl ?_
            refine WL.nil ?_
            refine WX.one ⟨hd_2, ?_⟩
            refine DL.step [(254, _), (258, _)] rfl ⟨rfl, rfl, trivial⟩ rfl (fun wq_14 kq_14 => ?_)
            have zs_kq_14 := kq_14.size
            replace hv := hv.pure kq_14
            replace hh := hh.pure kq_14
            replace hk := hk.pure kq_14
            replace hm := hm.pure kq_14
            replace hw := hw.pure kq_14
            replace hd_2 := hd_2.pure kq_14
            refine WL.num rfl rfl (n_add64 _ _ _ _) rfl (?_)
            refine WL.nil ?_
            refine WX.one ⟨hd_2, ?_⟩
            refine DL.step [(259, _)] rfl ⟨rfl, trivial⟩ rfl (fun wq_15 kq_15 => ?_)
            have zs_kq_15 := kq_15.size
            replace hv := hv.pure kq_15
            replace hh := hh.pure kq_15
            replace hk := hk.pure kq_15
            replace hm := hm.pure kq_15
            replace hw := hw.pure kq_15
            replace hd_2 := hd_2.pure kq_15
            refine WL.num rfl rfl (n_and64 _ _ _ 4294967295) rfl ?_
            rw [add_up]
            refine WL.nil ?_
            refine WX.one ⟨hd_2, ?_⟩
            refine DL.step [(261, _), (260, _)] rfl ⟨rfl, rfl, trivial⟩ rfl (fun wq_16 kq_16 => ?_)
            have zs_kq_16 := kq_16.size
            replace hv := hv.pure kq_16
            replace hh := hh.pure kq_16
            replace hk := hk.pure kq_16
            replace hm := hm.pure kq_16
            replace hw := hw.pure kq_16
            replace hd_2 := hd_2.pure kq_16
            refine WL.storeRow (z := (V0.list.getD i 0 + V.list.getD i 0).toUInt64) (i) Tryd.sizeOf44 hh rfl rfl rfl (by simp; done) (by omega) rfl ?_
            intro w_17 zs_17 nr_17 k_17
            have zs_k_17 := k_17.size
            replace hv := hv.chg k_17 (by intro b h1 h2 h3; have h4 : _ = _ := h3; (try dsimp only at h2); exfalso; omega)
            replace hk := hk.chg k_17 (by intro b h1 h2 h3; have h4 : _ = _ := h3; (try dsimp only at h2); exfalso; omega)
            replace hm := hm.chg k_17 (by intro b h1 h2 h3; have h4 : _ = _ := h3; (try dsimp only at h2); exfalso; omega)
            replace hw := hw.chg k_17 (by intro x h1 h2; have h3 : _ = _ := h2; exfalso; omega)
            replace hd_2 := hd_2.chg k_17 (by intro x h1 h2; exact h2)
            replace hh := nr_17
            rw [← List.map_set, f3] at hh
            refine WL.nil ?_
            refine WX.one0 (v := undef) ⟨hd_2, ?_⟩
            refine DL.done (fun we_18 ke_18 => ?_)
            have zs_ke_18 := ke_18.size
            replace hv := hv.pure ke_18
            replace hh := hh.pure ke_18
            replace hk := hk.pure ke_18
            replace hm := hm.pure ke_18
            replace hw := hw.pure ke_18
            replace hd_2 := hd_2.pure ke_18
            refine WX.block_normal (WX.then_normal (WC.region (WL.move rfl rfl (WL.add64 rfl rfl (by omega) rfl (WL.assign rfl rfl (WL.nil (?_)))))))
            first
              | (refine WX.loop_next (i + 1, (ah3, ch3), (ak2, ck2)) ⟨rfl, rfl, rfl, rfl, rfl, trivial⟩ ⟨by dsimp only; omega, by omega, hwn, hp, hh3, hk3, hw⟩ (by show _ - _ < _ - _; omega))
              | (have h8 : (UL st0).take i = (UL st0).take (i + 1) := by rw [List.take_of_length_le (by show 8 ≤ i; omega), List.take_of_length_le (by show 8 ≤ i + 1; omega)]
                 rw [h8] at hh2
                 refine WX.loop_next (i + 1, (ah, ch), (ak2, ck2)) ⟨rfl, rfl, by dsimp only; rw [← h8]; rfl, rfl, rfl, trivial⟩ ⟨by dsimp only; omega, by omega, hwn, hp, hh2, hk2, hw⟩ (by show _ - _ < _ - _; omega))
              | (refine WX.loop_next (i + 1) ⟨rfl, rfl, rfl, rfl, rfl, rfl, rfl, rfl, trivial⟩ ⟨by omega, hn7, hv, hh, hk, hm, hw⟩ (by show _ - _ < _ - _; omega))
              | (have e1 := WU_next B t
                 refine WX.loop_next (t + 1, a_hv2, c_hv2) ⟨rfl, rfl, rfl, rfl, ?_, rfl, trivial⟩ ⟨by dsimp only; omega, by omega, ?_, hh, hk, hm, hw⟩ (by show _ - _ < _ - _; omega)
                 ·
                   dsimp only; rw [e1]; rfl
                 ·
                   dsimp only; rw [e1]; exact hv2)
              | (have e1 : UL (roundsN WS V0 (r + 1)) = NL.set 4 ((V.d.toUInt64 + T1r V kt wt) &&& 4294967295) := by
                   rw [roundsN, ← hV, ← hwt, ← hkt, round_up, hNL]
                   rfl
                 refine WX.loop_next (r + 1, some ⟨gB, 0, none⟩, c_hB) ⟨rfl, rfl, rfl, rfl, rfl, ?_, rfl, trivial⟩ ⟨by dsimp only; omega, by omega, hws, ?_, hh, hk, hm, hw⟩ (by show _ - _ < _ - _; omega)
                 ·
                   dsimp only; rw [e1, List.length_set]; rfl
                 ·
                   dsimp only; rw [e1]; exact hB)
              | (refine WX.loop_next (i + 1) ⟨?_, rfl, rfl, rfl, rfl, rfl, trivial⟩ ⟨by omega, by omega, hv, hh, hk, hm, hw⟩ (by show _ - _ < _ - _; omega)
                 show some (Value.slice (some ⟨gh, 0, none⟩) (List.map UInt32.toUInt64 (addTo V0 V i)).length ch) = some (Value.slice (some ⟨gh, 0, none⟩) (List.map UInt32.toUInt64 (addTo V0 V (i + 1))).length ch)
                 rw [hal2, List.length_map, addTo_len V0 V (i + 1) (by omega)])
              | (have hi8 : i = 8 := by omega
                 subst hi8
                 obtain ⟨V1, hV1⟩ : ∃ V1, V1 = mix V0 B := ⟨_, rfl⟩
                 have e1 : (addTo V0 V 8).map UInt32.toUInt64 = UL V1 := by
                   rw [hV1, mix_eq, ← hWS, ← hV]
                   rfl
                 rw [e1] at hh ⊢
                 have e2 : ((64 * (j + 1) : Nat) : Int) = ((64 * j : Nat) : Int) + 64 := by omega
                 refine WX.loop_next (V1, j + 1) ⟨rfl, rfl, rfl, ?_, trivial⟩ ⟨by dsimp only; omega, by omega, ?_, hh, hk, hm, hw⟩ (by show M.length - 64 * (j + 1) < M.length - 64 * j; omega)
                 ·
                   dsimp only; rw [e2]; rfl
                 ·
                   dsimp only
                   rw [← hcomp, comp_more (s := V0) (ms := M.drop (64 * j)) (by rw [List.length_drop]; omega), ← eB, ← hV1, List.drop_drop]
                   rfl)
              | (have e1 : (V0.list.take (i + 1)).flatMap bytes4 = (V0.list.take i).flatMap bytes4 ++ bytes4 (V0.list.getD i 0) := by
                   rw [List.take_add_one, fx0, List.flatMap_append]
                   simp
                 refine WX.loop_next (i + 1, a_ho2, c_ho2) ⟨rfl, ?_, rfl, trivial⟩ ⟨by dsimp only; omega, by omega, ?_, hh, hw⟩ (by show _ - _ < _ - _; omega)
                 ·
                   dsimp only; rw [e1]; rfl
                 ·
                   dsimp only; rw [e1]; exact ho2)
          ·
            refine WL.nil (WX.then_normal (WC.cond_false rfl (WC.exit (WX.then_exit (WX.then_exit (WX.block_here (WX.block_normal (?_))))))))
            refine WX.then_normal (WC.region (WL.move rfl rfl (WL.add64 rfl rfl (by omega) rfl (WL.assign rfl rfl (WL.nil (?_))))))
            first
              | (refine WX.loop_next (i + 1, (ah3, ch3), (ak2, ck2)) ⟨rfl, rfl, rfl, rfl, rfl, trivial⟩ ⟨by dsimp only; omega, by omega, hwn, hp, hh3, hk3, hw⟩ (by show _ - _ < _ - _; omega))
              | (have h8 : (UL st0).take i = (UL st0).take (i + 1) := by rw [List.take_of_length_le (by show 8 ≤ i; omega), List.take_of_length_le (by show 8 ≤ i + 1; omega)]
                 rw [h8] at hh2
                 refine WX.loop_next (i + 1, (ah, ch), (ak2, ck2)) ⟨rfl, rfl, by dsimp only; rw [← h8]; rfl, rfl, rfl, trivial⟩ ⟨by dsimp only; omega, by omega, hwn, hp, hh2, hk2, hw⟩ (by show _ - _ < _ - _; omega))
              | (refine WX.loop_next (i + 1) ⟨rfl, rfl, rfl, rfl, rfl, rfl, rfl, rfl, trivial⟩ ⟨by omega, hn7, hv, hh, hk, hm, hw⟩ (by show _ - _ < _ - _; omega))
              | (have e1 := WU_next B t
                 refine WX.loop_next (t + 1, a_hv2, c_hv2) ⟨rfl, rfl, rfl, rfl, ?_, rfl, trivial⟩ ⟨by dsimp only; omega, by omega, ?_, hh, hk, hm, hw⟩ (by show _ - _ < _ - _; omega)
                 ·
                   dsimp only; rw [e1]; rfl
                 ·
                   dsimp only; rw [e1]; exact hv2)
              | (have e1 : UL (roundsN WS V0 (r + 1)) = NL.set 4 ((V.d.toUInt64 + T1r V kt wt) &&& 4294967295) := by
                   rw [roundsN, ← hV, ← hwt, ← hkt, round_up, hNL]
                   rfl
                 refine WX.loop_next (r + 1, some ⟨gB, 0, none⟩, c_hB) ⟨rfl, rfl, rfl, rfl, rfl, ?_, rfl, trivial⟩ ⟨by dsimp only; omega, by omega, hws, ?_, hh, hk, hm, hw⟩ (by show _ - _ < _ - _; omega)
                 ·
                   dsimp only; rw [e1, List.length_set]; rfl
                 ·
                   dsimp only; rw [e1]; exact hB)
              | (refine WX.loop_next (i + 1) ⟨?_, rfl, rfl, rfl, rfl, rfl, trivial⟩ ⟨by omega, by omega, hv, hh, hk, hm, hw⟩ (by show _ - _ < _ - _; omega)
                 show some (Value.slice (some ⟨gh, 0, none⟩) (List.map UInt32.toUInt64 (addTo V0 V i)).length ch) = some (Value.slice (some ⟨gh, 0, none⟩) (List.map UInt32.toUInt64 (addTo V0 V (i + 1))).length ch)
                 rw [hal2, List.length_map, addTo_len V0 V (i + 1) (by omega)])
              | (have hi8 : i = 8 := by omega
                 subst hi8
                 obtain ⟨V1, hV1⟩ : ∃ V1, V1 = mix V0 B := ⟨_, rfl⟩
                 have e1 : (addTo V0 V 8).map UInt32.toUInt64 = UL V1 := by
                   rw [hV1, mix_eq, ← hWS, ← hV]
                   rfl
                 rw [e1] at hh ⊢
                 have e2 : ((64 * (j + 1) : Nat) : Int) = ((64 * j : Nat) : Int) + 64 := by omega
                 refine WX.loop_next (V1, j + 1) ⟨rfl, rfl, rfl, ?_, trivial⟩ ⟨by dsimp only; omega, by omega, ?_, hh, hk, hm, hw⟩ (by show M.length - 64 * (j + 1) < M.length - 64 * j; omega)
                 ·
                   dsimp only; rw [e2]; rfl
                 ·
                   dsimp only
                   rw [← hcomp, comp_more (s := V0) (ms := M.drop (64 * j)) (by rw [List.length_drop]; omega), ← eB, ← hV1, List.drop_drop]
                   rfl)
              | (have e1 : (V0.list.take (i + 1)).flatMap bytes4 = (V0.list.take i).flatMap bytes4 ++ bytes4 (V0.list.getD i 0) := by
                   rw [List.take_add_one, fx0, List.flatMap_append]
                   simp
                 refine WX.loop_next (i + 1, a_ho2, c_ho2) ⟨rfl, ?_, rfl, trivial⟩ ⟨by dsimp only; omega, by omega, ?_, hh, hw⟩ (by show _ - _ < _ - _; omega)
                 ·
                   dsimp only; rw [e1]; rfl
                 ·
                   dsimp only; rw [e1]; exact ho2)
    ·
      refine WL.nil (WX.then_normal (WC.cond_false rfl (WC.exit (WX.then_exit (WX.then_exit (WX.block_here (WX.then_normal (?_))))))))
      refine WC.seq (WC.region (WL.assign rfl rfl (WL.nil (WX.then_normal (WC.seq (WC.seq (WC.region (?_))))))))
      refine WL.assign rfl rfl (WL.nil (WX.then_normal (WC.block (?_))))
      have hV0 : V0 = comp st0 M := by rw [← hcomp, List.drop_of_length_le (by omega), comp_nil]
      refine WC.loop (σ := Nat × Option Addr × Nat) (fun q => [(4, .slice (some ⟨gh, 0, none⟩) (UL V0).length ch), (20, .slice q.2.1 ((V0.list.take q.1).flatMap bytes4).length q.2.2), (21, vi q.1)])
        (fun q w' => q.1 ≤ 8 ∧ n2 ≤ w'.heap.size ∧ Row (fun x => n2 ≤ x) w' 5 eb q.2.1 q.2.2 ((V0.list.take q.1).flatMap bytes4) ∧ RSl (fun b => b = gh) w' e64 (some ⟨gh, 0, none⟩) ch (UL V0) ∧ Chg Nob w w') (fun q => 8 - q.1)
        (0, none, 0) ⟨rfl, rfl, rfl, trivial⟩ ⟨Nat.zero_le _, hn5, Row.nil _ _ _ _, hh.rsl, hw⟩ ?_
      clear hh hk hm hw
      rintro ⟨i, ao, co⟩ w6 ⟨hi, hn6, ho, hh, hw⟩
      dsimp only at hi hn6 ho hh hw ⊢
      have hlen : ((V0.list.take i).flatMap bytes4).length = 4 * i := by
        have h9 : i = 0 ∨ i = 1 ∨ i = 2 ∨ i = 3 ∨ i = 4 ∨ i = 5 ∨ i = 6 ∨ i = 7 ∨ i = 8 := by omega
        rcases h9 with rfl | rfl | rfl | rfl | rfl | rfl | rfl | rfl | rfl <;> rfl
      refine WC.seq (WC.seq (WC.region (WL.move rfl rfl (?_))))
      refine WL.lss? rfl rfl rfl (fun h263 => ?_) (fun h263 => ?_)
      ·
        refine WL.nil (WX.then_normal (WC.cond_true rfl (WC.skip (WX.then_normal (WC.seq (WC.block (?_)))))))
        have fx0 := getD_at (xs := V0.list) (i := i) (by show i < 8; omega)
        have fx : (UL V0)[i]? = some (V0.list.getD i 0).toUInt64 := map_at _ fx0
        refine WC.draw (fun b => Eqb ao b ∧ (fun x => n2 ≤ x) b) [0, 1, 2, 3, 4, 5, 6, 7, 8, 9, 10, 11, 12, 13, 14, 15, 16, 17, 18, 19, 20, 21, 22, 23] [24, 25, 26] mixed rfl rfl (fun wd_1 kd_1 zd_1 => ?_)
        have zs_kd_1 := kd_1.size
        replace ho := ho.pure kd_1
        replace hh := hh.pure kd_1
        replace hw := hw.pure kd_1
        apply DQ.step (E' := [(20, _)])
        case ho => rfl
        case hs => exact ⟨rfl, trivial⟩
        case hk => rfl
        case h1 =>
          intro wq_3 kq_3
          refine WL.move rfl rfl (?_)
          refine WL.nil ?_
          exact WX.one ⟨rfl, by exact Chg.refl _ _⟩
        apply DQ.step (E' := [(4, _)])
        case ho => rfl
        case hs => exact ⟨rfl, trivial⟩
        case hk => rfl
        case h1 =>
          intro wq_4 kq_4
          refine WL.move rfl rfl (?_)
          refine WL.nil ?_
          exact WX.one ⟨rfl, by exact Chg.refl _ _⟩
        apply DQ.step (E' := [(21, _)])
        case ho => rfl
        case hs => exact ⟨rfl, trivial⟩
        case hk => rfl
        case h1 =>
          intro wq_5 kq_5
          refine WL.move rfl rfl (?_)
          refine WL.nil ?_
          exact WX.one ⟨rfl, by exact Chg.refl _ _⟩
        apply DQ.step (E' := [(267, _), (268, _)])
        case ho => rfl
        case hs => exact ⟨rfl, rfl, trivial⟩
        case hk => rfl
        case h1 =>
          intro wq_6 kq_6
          have zs_kq_6 := kq_6.size
          replace hh := hh.chg kq_6 (by intros; exfalso; (try dsimp only at *); omega)
          replace hw := hw.chg kq_6 (by intros; exfalso; (try dsimp only at *); omega)
          refine WL.indexC hh Tryd.underlying133 Tryd.sizeOf44 rfl rfl ⟨fx, rfl⟩ rfl ?_
          refine WL.nil ?_
          exact WX.one ⟨rfl, by exact Chg.refl _ _⟩
        apply DQ.step (E' := [(269, _)])
        case ho => rfl
        case hs => exact ⟨rfl, trivial⟩
        case hk => rfl
        case h1 =>
          intro wq_7 kq_7
          have zs_kq_7 := kq_7.size
          replace hh := hh.chg kq_7 (by intros; exfalso; (try dsimp only at *); omega)
          replace hw := hw.chg kq_7 (by intros; exfalso; (try dsimp only at *); omega)
          refine WL.load Tryd.isAgg44 rfl ((hh.cellsAt fx) 0 _ rfl) rfl (?_)
          refine WL.nil ?_
          exact WX.one ⟨rfl, by exact Chg.refl _ _⟩
        apply DQ.step (E' := [(270, _)])
        case ho => rfl
        case hs => exact ⟨rfl, trivial⟩
        case hk => rfl
        case h1 =>
          intro wq_8 kq_8
          refine WL.num rfl rfl (n_shr64 _ _ _ _ 24 (by decide)) rfl (?_)
          refine WL.nil ?_
          exact WX.one ⟨rfl, by exact Chg.refl _ _⟩
        apply DQ.step (E' := [(271, _)])
        case ho => rfl
        case hs => exact ⟨rfl, trivial⟩
        case hk => rfl
        case h1 =>
          intro wq_9 kq_9
          have zs_kq_9 := kq_9.size
          replace hh := hh.chg kq_9 (by intros; exfalso; (try dsimp only at *); omega)
          replace hw := hw.chg kq_9 (by intros; exfalso; (try dsimp only at *); omega)
          refine WL.c_u64_u8 Tryd.underlying44 Tryd.underlying5 rfl rfl ?_
          rw [byte_up _ (by decide)]
          refine WL.nil ?_
          exact WX.one ⟨rfl, by exact Chg.refl _ _⟩
        apply DQ.step (E' := [(4, _)])
        case ho => rfl
        case hs => exact ⟨rfl, trivial⟩
        case hk => rfl
        case h1 =>
          intro wq_10 kq_10
          refine WL.move rfl rfl (?_)
          refine WL.nil ?_
          exact WX.one ⟨rfl, by exact Chg.refl _ _⟩
        apply DQ.step (E' := [(21, _)])
        case ho => rfl
        case hs => exact ⟨rfl, trivial⟩
        case hk => rfl
        case h1 =>
          intro wq_11 kq_11
          refine WL.move rfl rfl (?_)
          refine WL.nil ?_
          exact WX.one ⟨rfl, by exact Chg.refl _ _⟩
        apply DQ.step (E' := [(273, _), (274, _)])
        case ho => rfl
        case hs => exact ⟨rfl, rfl, trivial⟩
        case hk => rfl
        case h1 =>
          intro wq_12 kq_12
          have zs_kq_12 := kq_12.size
          replace hh := hh.chg kq_12 (by intros; exfalso; (try dsimp only at *); omega)
          replace hw := hw.chg kq_12 (by intros; exfalso; (try dsimp only at *); omega)
          refine WL.indexC hh Tryd.underlying133 Tryd.sizeOf44 rfl rfl ⟨fx, rfl⟩ rfl ?_
          refine WL.nil ?_
          exact WX.one ⟨rfl, by exact Chg.refl _ _⟩
        apply DQ.step (E' := [(275, _)])
        case ho => rfl
        case hs => exact ⟨rfl, trivial⟩
        case hk => rfl
        case h1 =>
          intro wq_13 kq_13
          have zs_kq_13 := kq_13.size
          replace hh := hh.chg kq_13 (by intros; exfalso; (try dsimp only at *); omega)
          replace hw := hw.chg kq_13 (by intros; exfalso; (try dsimp only at *); omega)
          refine WL.load Tryd.isAgg44 rfl ((hh.cellsAt fx) 0 _ rfl) rfl (?_)
          refine WL.nil ?_
          exact WX.one ⟨rfl, by exact Chg.refl _ _⟩
        apply DQ.step (E' := [(276, _)])
        case ho => rfl
        case hs => exact ⟨rfl, trivial⟩
        case hk => rfl
        case h1 =>
          intro wq_14 kq_14
          refine WL.num rfl rfl (n_shr64 _ _ _ _ 16 (by decide)) rfl (?_)
          refine WL.nil ?_
          exact WX.one ⟨rfl, by exact Chg.refl _ _⟩
        apply DQ.step (E' := [(277, _)])
        case ho => rfl
        case hs => exact ⟨rfl, trivial⟩
        case hk => rfl
        case h1 =>
          intro wq_15 kq_15
          have zs_kq_15 := kq_15.size
          replace hh := hh.chg kq_15 (by intros; exfalso; (try dsimp only at *); omega)
          replace hw := hw.chg kq_15 (by intros; exfalso; (try dsimp only at *); omega)
          refine WL.c_u64_u8 Tryd.underlying44 Tryd.underlying5 rfl rfl ?_
          rw [byte_up _ (by decide)]
          refine WL.nil ?_
          exact WX.one ⟨rfl, by exact Chg.refl _ _⟩
        apply DQ.step (E' := [(4, _)])
        case ho => rfl
        case hs => exact ⟨rfl, trivial⟩
        case hk => rfl
        case h1 =>
          intro wq_16 kq_16
          refine WL.move rfl rfl (?_)
          refine WL.nil ?_
          exact WX.one ⟨rfl, by exact Chg.refl _ _⟩
        apply DQ.step (E' := [(21, _)])
        case ho => rfl
        case hs => exact ⟨rfl, trivial⟩
        case hk => rfl
        case h1 =>
          intro wq_17 kq_17
          refine WL.move rfl rfl (?_)
          refine WL.nil ?_
          exact WX.one ⟨rfl, by exact Chg.refl _ _⟩
        apply DQ.step (E' := [(279, _), (280, _)])
        case ho => rfl
        case hs => exact ⟨rfl, rfl, trivial⟩
        case hk => rfl
        case h1 =>
          intro wq_18 kq_18
          have zs_kq_18 := kq_18.size
          replace hh := hh.chg kq_18 (by intros; exfalso; (try dsimp only at *); omega)
          replace hw := hw.chg kq_18 (by intros; exfalso; (try dsimp only at *); omega)
          refine WL.indexC hh Tryd.underlying133 Tryd.sizeOf44 rfl rfl ⟨fx, rfl⟩ rfl ?_
          refine WL.nil ?_
          exact WX.one ⟨rfl, by exact Chg.refl _ _⟩
        apply DQ.step (E' := [(281, _)])
        case ho => rfl
        case hs => exact ⟨rfl, trivial⟩
        case hk => rfl
        case h1 =>
          intro wq_19 kq_19
          have zs_kq_19 := kq_19.size
          replace hh := hh.chg kq_19 (by intros; exfalso; (try dsimp only at *); omega)
          replace hw := hw.chg kq_19 (by intros; exfalso; (try dsimp only at *); omega)
          refine WL.load Tryd.isAgg44 rfl ((hh.cellsAt fx) 0 _ rfl) rfl (?_)
          refine WL.nil ?_
          exact WX.one ⟨rfl, by exact Chg.refl _ _⟩
        apply DQ.step (E' := [(282, _)])
        case ho => rfl
        case hs => exact ⟨rfl, trivial⟩
        case hk => rfl
        case h1 =>
          intro wq_20 kq_20
          refine WL.num rfl rfl (n_shr64 _ _ _ _ 8 (by decide)) rfl (?_)
          refine WL.nil ?_
          exact WX.one ⟨rfl, by exact Chg.refl _ _⟩
        apply DQ.step (E' := [(283, _)])
        case ho => rfl
        case hs => exact ⟨rfl, trivial⟩
        case hk => rfl
        case h1 =>
          intro wq_21 kq_21
          have zs_kq_21 := kq_21.size
          replace hh := hh.chg kq_21 (by intros; exfalso; (try dsimp only at *); omega)
          replace hw := hw.chg kq_21 (by intros; exfalso; (try dsimp only at *); omega)
          refine WL.c_u64_u8 Tryd.underlying44 Tryd.underlying5 rfl rfl ?_
          rw [byte_up _ (by decide)]
          refine WL.nil ?_
          exact WX.one ⟨rfl, by exact Chg.refl _ _⟩
        apply DQ.step (E' := [(4, _)])
        case ho => rfl
        case hs => exact ⟨rfl, trivial⟩
        case hk => rfl
        case h1 =>
          intro wq_22 kq_22
          refine WL.move rfl rfl (?_)
          refine WL.nil ?_
          exact WX.one ⟨rfl, by exact Chg.refl _ _⟩
        apply DQ.step (E' := [(21, _)])
        case ho => rfl
        case hs => exact ⟨rfl, trivial⟩
        case hk => rfl
        case h1 =>
          intro wq_23 kq_23
          refine WL.move rfl rfl (?_)
          refine WL.nil ?_
          exact WX.one ⟨rfl, by exact Chg.refl _ _⟩
        apply DQ.step (E' := [(285, _), (286, _)])
        case ho => rfl
        case hs => exact ⟨rfl, rfl, trivial⟩
        case hk => rfl
        case h1 =>
          intro wq_24 kq_24
          have zs_kq_24 := kq_24.size
          replace hh := hh.chg kq_24 (by intros; exfalso; (try dsimp only at *); omega)
          replace hw := hw.chg kq_24 (by intros; exfalso; (try dsimp only at *); omega)
          refine WL.indexC hh Tryd.underlying133 Tryd.sizeOf44 rfl rfl ⟨fx, rfl⟩ rfl ?_
          refine WL.nil ?_
          exact WX.one ⟨rfl, by exact Chg.refl _ _⟩
        apply DQ.step (E' := [(287, _)])
        case ho => rfl
        case hs => exact ⟨rfl, trivial⟩
        case hk => rfl
        case h1 =>
          intro wq_25 kq_25
          have zs_kq_25 := kq_25.size
          replace hh := hh.chg kq_25 (by intros; exfalso; (try dsimp only at *); omega)
          replace hw := hw.chg kq_25 (by intros; exfalso; (try dsimp only at *); omega)
          refine WL.load Tryd.isAgg44 rfl ((hh.cellsAt fx) 0 _ rfl) rfl (?_)
          refine WL.nil ?_
          exact WX.one ⟨rfl, by exact Chg.refl _ _⟩
        apply DQ.step (E' := [(288, _)])
        case ho => rfl
        case hs => exact ⟨rfl, trivial⟩
        case hk => rfl
        case h1 =>
          intro wq_26 kq_26
          have zs_kq_26 := kq_26.size
          replace hh := hh.chg kq_26 (by intros; exfalso; (try dsimp only at *); omega)
          replace hw := hw.chg kq_26 (by intros; exfalso; (try dsimp only at *); omega)
          refine WL.c_u64_u8 Tryd.underlying44 Tryd.underlying5 rfl rfl ?_
          rw [byte_up0]
          refine WL.nil ?_
          exact WX.one ⟨rfl, by exact Chg.refl _ _⟩
        refine DQ.doneG (S := fun x => n2 ≤ x) (a := ao) (fun hd_2 => ?_)
        refine DL.step [(272, _), (278, _), (284, _), (289, _)] rfl ⟨rfl, rfl, rfl, rfl, trivial⟩ rfl (fun wq_27 kq_27 => ?_)
        have zs_kq_27 := kq_27.size
        replace hd_2 := hd_2.pure kq_27
        replace ho := ho.pure kq_27
        replace hh := hh.pure kq_27
        replace hw := hw.pure kq_27
        refine WL.build (e := eb) (bytes4 (V0.list.getD i 0)) Tryd.underlying26 Tryd.sizeOf5 Tryd.zeroValue5 rfl rfl rfl (by simp [Value.cells] <;> rfl) (by decide) rfl ?_
        intro a_hn w_hn hn l_hn z_hn k_hn
        have zs_k_hn := k_hn.size
        replace hd_2 := hd_2.pure k_hn
        replace ho := ho.pure k_hn
        replace hh := hh.pure k_hn
        replace hw := hw.pure k_hn
        refine WL.nil ?_
        refine WX.one ⟨hd_2.chg, ?_⟩
        refine DL.step [(266, _), (290, _)] rfl ⟨rfl, rfl, trivial⟩ rfl (fun wq_28 kq_28 => ?_)
        have zs_kq_28 := kq_28.size
        replace hd_2 := hd_2.pure kq_28
        replace ho := ho.pure kq_28
        replace hh := hh.pure kq_28
        replace hw := hw.pure kq_28
        replace hn := hn.pure kq_28
        refine WL.append (e := eb) info_5 rfl Tryd.underlying26 rfl rfl ho (hn.rsl.src Tryd.underlying26) (by (try simp only [List.length_append, List.length_cons, List.length_nil] at *); omega) (by intro b hb; first | (apply hS; omega) | ((try dsimp only); omega)) rfl ?_
        intro a_ho2 c_ho2 w_ho2 ho2 g_ho2 n_ho2
        have z_ho2 := g_ho2.chg.size
        replace hd_2 := hd_2.trans g_ho2
        have zs_g_ho2_chg := g_ho2.chg.size
        replace hh := hh.chg g_ho2.chg (by intros; exfalso; (try dsimp only at *); omega)
        replace hw := hw.chg g_ho2.chg (by intros; exfalso; (try dsimp only at *); omega)
        refine WL.nil ?_
        refine WX.one ⟨hd_2.chg, ?_⟩
        refine DL.step [(291, _)] rfl ⟨rfl, trivial⟩ rfl (fun wq_29 kq_29 => ?_)
        have zs_kq_29 := kq_29.size
        replace hd_2 := hd_2.pure kq_29
        replace hh := hh.pure kq_29
        replace hw := hw.pure kq_29
        replace ho2 := ho2.pure kq_29
        refine WL.assign rfl rfl (?_)
        refine WL.nil ?_
        refine WX.one ⟨hd_2.chg, ?_⟩
        refine DL.done (fun we_30 ke_30 => ?_)
        have zs_ke_30 := ke_30.size
        replace hd_2 := hd_2.pure ke_30
        replace hh := hh.pure ke_30
        replace hw := hw.pure ke_30
        replace ho2 := ho2.pure ke_30
        refine WX.block_normal (WX.then_normal (WC.region (WL.move rfl rfl (WL.add64 rfl rfl (by omega) rfl (WL.assign rfl rfl (WL.nil (?_)))))))
        first
          | (refine WX.loop_next (i + 1, (ah3, ch3), (ak2, ck2)) ⟨rfl, rfl, rfl, rfl, rfl, trivial⟩ ⟨by dsimp only; omega, by omega, hwn, hp, hh3, hk3, hw⟩ (by show _ - _ < _ - _; omega))
          | (have h8 : (UL st0).take i = (UL st0).take (i + 1) := by rw [List.take_of_length_le (by show 8 ≤ i; omega), List.take_of_length_le (by show 8 ≤ i + 1; omega)]
             rw [h8] at hh2
             refine WX.loop_next (i + 1, (ah, ch), (ak2, ck2)) ⟨rfl, rfl, by dsimp only; rw [← h8]; rfl, rfl, rfl, trivial⟩ ⟨by dsimp only; omega, by omega, hwn, hp, hh2, hk2, hw⟩ (by show _ - _ < _ - _; omega))
          | (refine WX.loop_next (i + 1) ⟨rfl, rfl, rfl, rfl, rfl, rfl, rfl, rfl, trivial⟩ ⟨by omega, hn7, hv, hh, hk, hm, hw⟩ (by show _ - _ < _ - _; omega))
          | (have e1 := WU_next B t
             refine WX.loop_next (t + 1, a_hv2, c_hv2) ⟨rfl, rfl, rfl, rfl, ?_, rfl, trivial⟩ ⟨by dsimp only; omega, by omega, ?_, hh, hk, hm, hw⟩ (by show _ - _ < _ - _; omega)
             ·
               dsimp only; rw [e1]; rfl
             ·
               dsimp only; rw [e1]; exact hv2)
          | (have e1 : UL (roundsN WS V0 (r + 1)) = NL.set 4 ((V.d.toUInt64 + T1r V kt wt) &&& 4294967295) := by
               rw [roundsN, ← hV, ← hwt, ← hkt, round_up, hNL]
               rfl
             refine WX.loop_next (r + 1, some ⟨gB, 0, none⟩, c_hB) ⟨rfl, rfl, rfl, rfl, rfl, ?_, rfl, trivial⟩ ⟨by dsimp only; omega, by omega, hws, ?_, hh, hk, hm, hw⟩ (by show _ - _ < _ - _; omega)
             ·
               dsimp only; rw [e1, List.length_set]; rfl
             ·
               dsimp only; rw [e1]; exact hB)
          | (refine WX.loop_next (i + 1) ⟨?_, rfl, rfl, rfl, rfl, rfl, trivial⟩ ⟨by omega, by omega, hv, hh, hk, hm, hw⟩ (by show _ - _ < _ - _; omega)
             show some (Value.slice (some ⟨gh, 0, none⟩) (List.map UInt32.toUInt64 (addTo V0 V i)).length ch) = some (Value.slice (some ⟨gh, 0, none⟩) (List.map UInt32.toUInt64 (addTo V0 V (i + 1))).length ch)
             rw [hal2, List.length_map, addTo_len V0 V (i + 1) (by omega)])
          | (have hi8 : i = 8 := by omega
             subst hi8
             obtain ⟨V1, hV1⟩ : ∃ V1, V1 = mix V0 B := ⟨_, rfl⟩
             have e1 : (addTo V0 V 8).map UInt32.toUInt64 = UL V1 := by
               rw [hV1, mix_eq, ← hWS, ← hV]
               rfl
             rw [e1] at hh ⊢
             have e2 : ((64 * (j + 1) : Nat) : Int) = ((64 * j : Nat) : Int) + 64 := by omega
             refine WX.loop_next (V1, j + 1) ⟨rfl, rfl, rfl, ?_, trivial⟩ ⟨by dsimp only; omega, by omega, ?_, hh, hk, hm, hw⟩ (by show M.length - 64 * (j + 1) < M.length - 64 * j; omega)
             ·
               dsimp only; rw [e2]; rfl
             ·
               dsimp only
               rw [← hcomp, comp_more (s := V0) (ms := M.drop (64 * j)) (by rw [List.length_drop]; omega), ← eB, ← hV1, List.drop_drop]
               rfl)
          | (have e1 : (V0.list.take (i + 1)).flatMap bytes4 = (V0.list.take i).flatMap bytes4 ++ bytes4 (V0.list.getD i 0) := by
               rw [List.take_add_one, fx0, List.flatMap_append]
               simp
             refine WX.loop_next (i + 1, a_ho2, c_ho2) ⟨rfl, ?_, rfl, trivial⟩ ⟨by dsimp only; omega, by omega, ?_, hh, hw⟩ (by show _ - _ < _ - _; omega)
             ·
               dsimp only; rw [e1]; rfl
             ·
               dsimp only; rw [e1]; exact ho2)
      ·
        refine WL.nil (WX.then_normal (WC.cond_false rfl (WC.exit (WX.then_exit (WX.then_exit (WX.block_here (WX.then_normal (?_))))))))
        refine WC.seq (WC.region (WL.move rfl rfl (WL.toStr Tryd.underlying26 Tryd.underlying5 Tryd.underlying9 ho.rsl rfl rfl (WL.assign rfl rfl (WL.nil (WX.then_normal (WC.ret (?_))))))))
        refine WX.ret1 (.inl rfl) Tryd.results63 rfl ?_
        have h8 : i = 8 := by omega
        subst h8
        refine ⟨_, rfl, ?_, hw⟩
        rw [sumB, ← eM, ← hV0]
        rfl
end Go.Proofs.YtjeldcjchipdgaaDoor
