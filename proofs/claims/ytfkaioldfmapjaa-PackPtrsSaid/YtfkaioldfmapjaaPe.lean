import Derived.Test.YtfkaioldfmapjaaPd
namespace Go.Proofs.Ytfkaioldfmapjaa
open Go.RowKit Go.HL

def kn5 : List Item := [⟨1, -1, ⟨#[]⟩⟩, ⟨2, 0, ⟨#[97, 98]⟩⟩, ⟨1, 64, ⟨#[]⟩⟩]
theorem kn5_ok : checkE kn5 = 0 := by decide +kernel
theorem kn5_bytes : encAll kn5 = [1, 1, 2, 2, 97, 98, 1, 128, 1] := by
  have h1 : (zigU (-1)).toNat = 1 := by decide +kernel
  have h2 : (zigU 64).toNat = 128 := by decide +kernel
  have h3 : (ByteArray.mk #[97, 98]).size = 2 := rfl
  simp only [kn5, encAll, List.flatMap_cons, List.flatMap_nil, enc1, h1, h2, h3, cnt_small (n := 1) (by decide), cnt_small (n := 2) (by decide), cnt_big (n := 128) (by decide)]
  simp only [if_true, if_neg (show ¬ ((2 : Int) = 1) from by decide)]
  decide +kernel
theorem known5_calls (w : World) : Calls Try.prog 13 [].toArray w (Ret fun v w' => v = .bool true ∧ Chg Nob w w') := by
  refine Calls.of_WC Try.func13 rfl Try.ntmps13 (by simp) ?_
  refine WC.seq (WC.region (WL.assign rfl rfl (WL.nil (WX.then_normal (WC.seq (WC.region (WL.bld rfl (bld_37_0_1 _ _) rfl (?_))))))))
  refine WL.bld rfl (bld_37_0_2 _ _) rfl (WL.bld rfl (bld_37_0_1 _ _) rfl (?_))
  refine WL.build (e := eit) [⟨1, -1, ⟨#[]⟩⟩, ⟨2, 0, ⟨#[97, 98]⟩⟩, ⟨1, 64, ⟨#[]⟩⟩] Try.underlying22 Try.sizeOf37 Try.zeroValue37 rfl rfl rfl (by first | (simp [Value.cells]; done) | (simp [Value.cells] <;> rfl) | (simp [Value.cells, eb, ei, es, ebool, e32, e64]; done)) (by decide) rfl ?_
  intro a_hl w_hl hl l_hl z_hl k_hl
  have zs_k_hl := k_hl.size
  refine WL.call eg_14 rfl rfl (encode_calls hl.rsl (by decide)) ?_
  rintro v w1 ⟨ao, c, rfl, hb, k⟩
  have zs_k := k.size
  replace hl := hl.pure k
  rw [show checkE [⟨1, -1, ⟨#[]⟩⟩, ⟨2, 0, ⟨#[97, 98]⟩⟩, ⟨1, 64, ⟨#[]⟩⟩] = 0 from kn5_ok, if_pos rfl, show encAll [⟨1, -1, ⟨#[]⟩⟩, ⟨2, 0, ⟨#[97, 98]⟩⟩, ⟨1, 64, ⟨#[]⟩⟩] = _ from kn5_bytes] at hb ⊢
  refine WL.move rfl rfl (WL.extract rfl rfl rfl (WL.extract rfl rfl rfl (WL.assign rfl rfl (WL.assign rfl rfl (WL.nil (WX.then_normal (WC.seq (?_))))))))
  refine WC.region (WL.move rfl rfl (?_))
  refine WL.eql? rfl rfl rfl (fun h12 => ?_) (fun h12 => ?_)
  ·
    refine WL.move rfl rfl (WL.want rfl rfl rfl (WL.move rfl rfl (WL.want rfl rfl rfl (?_))))
    refine WL.toStr Try.underlying24 Try.underlying5 Try.underlying9 hb.rsl rfl rfl ?_
    refine WL.want rfl rfl rfl (WL.seql rfl rfl rfl (WL.pickT rfl rfl rfl (WL.assign rfl rfl (WL.nil (WX.then_normal (WC.ret (?_)))))))
    refine WX.ret1 (.inl rfl) Try.results13 rfl ?_
    first
      | (exact absurd rfl h12)
      | (refine ⟨_, rfl, ?_, k_hl.pure k⟩
         rfl)
  ·
    refine WL.move rfl rfl (WL.pass rfl rfl rfl rfl (WL.pass rfl rfl rfl rfl (WL.pass rfl rfl rfl rfl (WL.pickF rfl rfl rfl (WL.assign rfl rfl (WL.nil (WX.then_normal (?_))))))))
    refine WC.ret (?_)
    refine WX.ret1 (.inl rfl) Try.results13 rfl ?_
    first
      | (exact absurd rfl h12)
      | (refine ⟨_, rfl, ?_, k_hl.pure k⟩
         rfl)
end Go.Proofs.Ytfkaioldfmapjaa
