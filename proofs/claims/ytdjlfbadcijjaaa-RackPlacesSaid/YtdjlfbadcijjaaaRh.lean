import Derived.Test.YtdjlfbadcijjaaaHv
import Derived.Test.YtdjlfbadcijjaaaHj
import Derived.Test.YtdjlfbadcijjaaaRg
namespace Go.Proofs.Ytdjlfbadcijjaaa
open Go.RowKit Go.HL

/-! a sector's bytes, by a number -/
def fillL (f : Int) (n : Nat) : Nat → List UInt8
  | 0 => List.replicate n 0
  | i + 1 => (fillL f n i).set i (B8 (IntKind.i64.wrap (f + i)))
theorem fillL_len (f : Int) (n i : Nat) : (fillL f n i).length = n := by
  induction i with
  | zero => simp [fillL]
  | succ i ih => simp [fillL, ih]
def bytesN (f : Int) (n : Nat) : List UInt8 := if 1 < n then ((fillL f n n).set 0 (B8 (IntKind.i64.wrap (f.tdiv 256)))).set 1 (B8 (IntKind.i64.wrap (f.tdiv 65536))) else fillL f n n
theorem bytesN_len (f : Int) (n : Nat) : (bytesN f n).length = n := by
  unfold bytesN
  split <;> simp [fillL_len]
theorem bytes_calls (w : World) (f more : Int) (n : Nat) (hm : -1000 ≤ more ∧ more ≤ 1000) (hn : (n : Int) = max (min (128 + more) 400) 0) :
    Calls Try.prog 14 [vi f, vi more].toArray w (Ret fun v w' => (∃ g, v = .slice (some ⟨g, 0, none⟩) (bytesN f n).length n ∧ Row (· = g) w' 5 eb (some ⟨g, 0, none⟩) n (bytesN f n) ∧ w.heap.size ≤ g ∧ g < w'.heap.size) ∧ Chg Nob w w') := by
  have hw := Chg.refl Nob w
  have hn4 : n ≤ 400 := by omega
  refine Calls.of_WC Try.func14 rfl Try.ntmps14 (by simp) ?_
  refine WC.seq (WC.region (WL.assign rfl rfl (WL.nil (WX.then_normal (WC.seq (WC.region (WL.move rfl rfl (?_))))))))
  refine WL.add64 rfl rfl (by first | omega | (constructor <;> omega)) rfl (?_)
  refine WL.mini rfl rfl rfl ?_
  refine WL.maxi rfl rfl rfl ?_
  rw [show (if (0 : Int) > (if (400 : Int) < 128 + more then 400 else 128 + more) then (0 : Int) else (if (400 : Int) < 128 + more then 400 else 128 + more)) = (n : Int) from by split <;> split <;> omega]
  refine WL.make (e := eb) (0 : UInt8) n n Try.underlying30 info_5 rfl rfl rfl ⟨rfl, rfl, Nat.le_refl _⟩ (by constructor <;> omega) rfl ?_
  intro g w3 hm3 k3 z3 eg
  have zs_k3 := k3.size
  replace hw := hw.pure k3
  have hR : Row (· = g) w3 5 eb (some ⟨g, 0, none⟩) n (fillL f n 0) := ⟨fun a ea => by injection ea with ea; subst ea; rfl, hm3.own⟩
  have hgl : w.heap.size ≤ g := by omega
  have hgl2 : g < w3.heap.size := by omega
  rw [show (List.replicate n (0 : UInt8)).length = (fillL f n 0).length from by rw [fillL_len, List.length_replicate]]
  refine WL.assign rfl rfl (WL.nil (WX.then_normal (WC.seq (WC.seq (WC.region (WL.assign rfl rfl (WL.nil (?_))))))))
  refine WX.then_normal (WC.block (?_))
  refine WC.loop (σ := Nat) (fun i => [(0, vi f), (5, .slice (some ⟨g, 0, none⟩) (fillL f n i).length n), (6, vi (i : Int))]) (fun i w' => i ≤ n ∧ Row (· = g) w' 5 eb (some ⟨g, 0, none⟩) n (fillL f n i) ∧ Chg Nob w w' ∧ g < w'.heap.size) (fun i => n - i) 0 ⟨rfl, rfl, rfl, trivial⟩ ⟨Nat.zero_le _, hR, hw, hgl2⟩ ?_
  clear hR hw hgl2
  rintro i w1 ⟨hi, hR, hw, hgl2⟩
  have hfl := fillL_len f n i
  refine WC.seq (WC.seq (WC.region (WL.move rfl rfl (WL.move rfl rfl (WL.len Try.underlying30 rfl rfl (?_))))))
  refine WL.lss? rfl rfl rfl (fun h15 => ?_) (fun h15 => ?_)
  ·
    refine WL.nil (WX.then_normal (WC.cond_true rfl (WC.skip (WX.then_normal (WC.seq (WC.block (WC.region (?_))))))))
    refine WL.move rfl rfl (WL.move rfl rfl (WL.move rfl rfl (WL.move rfl rfl (?_))))
    refine WL.addk rfl rfl rfl ?_
    refine WL.c_i64_u8 Try.underlying3 Try.underlying5 rfl rfl (?_)
    refine WL.indexC hR.rsl Try.underlying30 Try.sizeOf5 rfl rfl ⟨List.getElem?_eq_getElem (by omega), rfl⟩ rfl ?_
    refine WL.storeRow (z := B8 (IntKind.i64.wrap (f + i))) (i) Try.sizeOf5 hR rfl rfl rfl (by first | (simp; done) | (show 0 + _ * 1 = _; omega)) (by omega) rfl ?_
    intro w_1 zs_1 nr_1 k_1
    have zs_k_1 := k_1.size
    replace hw := hw.chg k_1 (by first | (intro x h1 h2; exact h2) | (intro x h0 h1 h2; exact hS x h1 h2) | (intro x h0 h1 h2; have h3 : _ = _ := h2; subst h3; exact hSR h1.1) | (intro x h1 h2; have h3 : _ = _ := h2; subst h3; assumption) | (intro x h1 h2; have h3 : _ = _ := h2; exfalso; omega) | (intro b h1 h2 h3; have h4 : _ = _ := h3; (try dsimp only at h2); exfalso; omega) | (intro h1; have h2 : _ = _ := h1; exfalso; omega) | (intros; exfalso; (try dsimp only at *); omega) | (intro b h1 h2 h3; exfalso; have h4 := h3.2; (try dsimp only at *); omega) | (intro h1; exfalso; have h4 := h1.2; (try dsimp only at *); omega) | (intro x h1 h2; exfalso; have h4 := h2.2; (try dsimp only at *); omega) | (intro x h1 h2; exact h2.1) | (intro x h1 h2; rcases h2.1 with h3 | h3; exact h3; exfalso; omega) | (intro x h1 h2; rcases h2 with h3 | h3; exact h3; exfalso; omega))
    replace hR := nr_1
    refine WL.nil (WX.block_normal (WX.then_normal (WC.region (WL.move rfl rfl (WL.add64 rfl rfl (by first | omega | (constructor <;> omega)) rfl (WL.assign rfl rfl (WL.nil (?_))))))))
    exact WX.loop_next (i + 1) ⟨rfl, by simp [List.lookup, ev, fillL_len], rfl, trivial⟩ ⟨by omega, hR, hw, by omega⟩ (by omega)
  ·
    refine WL.nil (WX.then_normal (WC.cond_false rfl (WC.exit (WX.then_exit (WX.then_exit (WX.block_here (WX.then_normal (?_))))))))
    refine WC.seq (WC.seq (WC.region (WL.move rfl rfl (WL.len Try.underlying30 rfl rfl (?_)))))
    refine WL.gtr? rfl rfl rfl (fun h27 => ?_) (fun h27 => ?_)
    ·
      refine WL.nil (WX.then_normal (WC.cond_true rfl (WC.region (WL.move rfl rfl (WL.move rfl rfl (WL.move rfl rfl (?_)))))))
      refine WL.quok rfl rfl (by decide) rfl ?_
      refine WL.c_i64_u8 Try.underlying3 Try.underlying5 rfl rfl (WL.move rfl rfl (?_))
      refine WL.quok rfl rfl (by decide) rfl ?_
      refine WL.c_i64_u8 Try.underlying3 Try.underlying5 rfl rfl (?_)
      refine WL.index (j := 0) Try.underlying30 Try.sizeOf5 rfl rfl rfl (by omega) rfl ?_
      refine WL.storeRow (z := B8 (IntKind.i64.wrap (f.tdiv 256))) (0) Try.sizeOf5 hR rfl rfl rfl (by first | (simp; done) | (show 0 + _ * 1 = _; omega)) (by omega) rfl ?_
      intro w_1 zs_1 nr_1 k_1
      have zs_k_1 := k_1.size
      replace hw := hw.chg k_1 (by first | (intro x h1 h2; exact h2) | (intro x h0 h1 h2; exact hS x h1 h2) | (intro x h0 h1 h2; have h3 : _ = _ := h2; subst h3; exact hSR h1.1) | (intro x h1 h2; have h3 : _ = _ := h2; subst h3; assumption) | (intro x h1 h2; have h3 : _ = _ := h2; exfalso; omega) | (intro b h1 h2 h3; have h4 : _ = _ := h3; (try dsimp only at h2); exfalso; omega) | (intro h1; have h2 : _ = _ := h1; exfalso; omega) | (intros; exfalso; (try dsimp only at *); omega) | (intro b h1 h2 h3; exfalso; have h4 := h3.2; (try dsimp only at *); omega) | (intro h1; exfalso; have h4 := h1.2; (try dsimp only at *); omega) | (intro x h1 h2; exfalso; have h4 := h2.2; (try dsimp only at *); omega) | (intro x h1 h2; exact h2.1) | (intro x h1 h2; rcases h2.1 with h3 | h3; exact h3; exfalso; omega) | (intro x h1 h2; rcases h2 with h3 | h3; exact h3; exfalso; omega))
      replace hR := nr_1
      refine WL.index (j := 1) Try.underlying30 Try.sizeOf5 rfl rfl rfl (by omega) rfl ?_
      have hfl2 : ((fillL f n i).set 0 (B8 (IntKind.i64.wrap (f.tdiv 256)))).length = n := by rw [List.length_set, hfl]
      refine WL.storeRow (z := B8 (IntKind.i64.wrap (f.tdiv 65536))) (1) Try.sizeOf5 hR rfl rfl rfl (by first | (simp; done) | (show 0 + _ * 1 = _; omega)) (by omega) rfl ?_
      intro w_2 zs_2 nr_2 k_2
      have zs_k_2 := k_2.size
      replace hw := hw.chg k_2 (by first | (intro x h1 h2; exact h2) | (intro x h0 h1 h2; exact hS x h1 h2) | (intro x h0 h1 h2; have h3 : _ = _ := h2; subst h3; exact hSR h1.1) | (intro x h1 h2; have h3 : _ = _ := h2; subst h3; assumption) | (intro x h1 h2; have h3 : _ = _ := h2; exfalso; omega) | (intro b h1 h2 h3; have h4 : _ = _ := h3; (try dsimp only at h2); exfalso; omega) | (intro h1; have h2 : _ = _ := h1; exfalso; omega) | (intros; exfalso; (try dsimp only at *); omega) | (intro b h1 h2 h3; exfalso; have h4 := h3.2; (try dsimp only at *); omega) | (intro h1; exfalso; have h4 := h1.2; (try dsimp only at *); omega) | (intro x h1 h2; exfalso; have h4 := h2.2; (try dsimp only at *); omega) | (intro x h1 h2; exact h2.1) | (intro x h1 h2; rcases h2.1 with h3 | h3; exact h3; exfalso; omega) | (intro x h1 h2; rcases h2 with h3 | h3; exact h3; exfalso; omega))
      replace hR := nr_2
      refine WL.nil (WX.then_normal (WC.seq (WC.region (WL.move rfl rfl (WL.assign rfl rfl (WL.nil (WX.then_normal (?_))))))))
      refine WC.ret (?_)
      refine WX.ret1 (.inl rfl) Try.results14 rfl ?_
      have hin : i = n := by omega
      subst hin
      first
        | (have hh : bytesN f i = ((fillL f i i).set 0 (B8 (IntKind.i64.wrap (f.tdiv 256)))).set 1 (B8 (IntKind.i64.wrap (f.tdiv 65536))) := by rw [bytesN, if_pos (by omega)]
           rw [hh]
           refine ⟨_, rfl, ⟨g, by simp, hR, hgl, by omega⟩, hw⟩)
        | (have hh : bytesN f i = fillL f i i := by rw [bytesN, if_neg (by omega)]
           rw [hh]
           refine ⟨_, rfl, ⟨g, rfl, hR, hgl, by omega⟩, hw⟩)
    ·
      refine WL.nil (WX.then_normal (WC.cond_false rfl (WC.skip (WX.then_normal (WC.seq (WC.region (WL.move rfl rfl (?_))))))))
      refine WL.assign rfl rfl (WL.nil (WX.then_normal (WC.ret (?_))))
      refine WX.ret1 (.inl rfl) Try.results14 rfl ?_
      have hin : i = n := by omega
      subst hin
      first
        | (have hh : bytesN f i = ((fillL f i i).set 0 (B8 (IntKind.i64.wrap (f.tdiv 256)))).set 1 (B8 (IntKind.i64.wrap (f.tdiv 65536))) := by rw [bytesN, if_pos (by omega)]
           rw [hh]
           refine ⟨_, rfl, ⟨g, by simp, hR, hgl, by omega⟩, hw⟩)
        | (have hh : bytesN f i = fillL f i i := by rw [bytesN, if_neg (by omega)]
           rw [hh]
           refine ⟨_, rfl, ⟨g, rfl, hR, hgl, by omega⟩, hw⟩)
end Go.Proofs.Ytdjlfbadcijjaaa
