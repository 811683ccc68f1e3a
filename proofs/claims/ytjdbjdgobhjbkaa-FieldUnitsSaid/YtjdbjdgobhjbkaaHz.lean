import Derived.Laws.ResultCell
import Derived.Test.YtjdbjdgobhjbkaaProg
import Derived.Test.YtjdbjdgobhjbkaaHi
namespace Go.Proofs.Ytjdbjdgobhjbkaa
open Go.RowKit Go.HL
theorem eg_2 : ∀ (args : Array Value) (w : World), (callFunc 2 args).run Try.prog w = .ok (.enter 2 args) w := eg_of Try.func2 (by kernel_rfl) rfl
theorem eg_3 : ∀ (args : Array Value) (w : World), (callFunc 3 args).run Try.prog w = .ok (.enter 3 args) w := eg_of Try.func3 (by kernel_rfl) rfl
theorem eg_4 : ∀ (args : Array Value) (w : World), (callFunc 4 args).run Try.prog w = .ok (.enter 4 args) w := eg_of Try.func4 (by kernel_rfl) rfl
theorem eg_5 : ∀ (args : Array Value) (w : World), (callFunc 5 args).run Try.prog w = .ok (.enter 5 args) w := eg_of Try.func5 (by kernel_rfl) rfl
theorem eg_6 : ∀ (args : Array Value) (w : World), (callFunc 6 args).run Try.prog w = .ok (.enter 6 args) w := eg_of Try.func6 (by kernel_rfl) rfl
theorem eg_7 : ∀ (args : Array Value) (w : World), (callFunc 7 args).run Try.prog w = .ok (.enter 7 args) w := eg_of Try.func7 (by kernel_rfl) rfl
theorem eg_8 : ∀ (args : Array Value) (w : World), (callFunc 8 args).run Try.prog w = .ok (.enter 8 args) w := eg_of Try.func8 (by kernel_rfl) rfl
theorem eg_9 : ∀ (args : Array Value) (w : World), (callFunc 9 args).run Try.prog w = .ok (.enter 9 args) w := eg_of Try.func9 (by kernel_rfl) rfl
theorem eg_10 : ∀ (args : Array Value) (w : World), (callFunc 10 args).run Try.prog w = .ok (.enter 10 args) w := eg_of Try.func10 (by kernel_rfl) rfl
theorem eg_11 : ∀ (args : Array Value) (w : World), (callFunc 11 args).run Try.prog w = .ok (.enter 11 args) w := eg_of Try.func11 (by kernel_rfl) rfl
theorem eg_12 : ∀ (args : Array Value) (w : World), (callFunc 12 args).run Try.prog w = .ok (.enter 12 args) w := eg_of Try.func12 (by kernel_rfl) rfl
theorem eg_13 : ∀ (args : Array Value) (w : World), (callFunc 13 args).run Try.prog w = .ok (.enter 13 args) w := eg_of Try.func13 (by kernel_rfl) rfl
theorem eg_14 : ∀ (args : Array Value) (w : World), (callFunc 14 args).run Try.prog w = .ok (.enter 14 args) w := eg_of Try.func14 (by kernel_rfl) rfl
theorem eg_15 : ∀ (args : Array Value) (w : World), (callFunc 15 args).run Try.prog w = .ok (.enter 15 args) w := eg_of Try.func15 (by kernel_rfl) rfl
theorem eg_16 : ∀ (args : Array Value) (w : World), (callFunc 16 args).run Try.prog w = .ok (.enter 16 args) w := eg_of Try.func16 (by kernel_rfl) rfl
theorem eg_17 : ∀ (args : Array Value) (w : World), (callFunc 17 args).run Try.prog w = .ok (.enter 17 args) w := eg_of Try.func17 (by kernel_rfl) rfl
theorem eg_18 : ∀ (args : Array Value) (w : World), (callFunc 18 args).run Try.prog w = .ok (.enter 18 args) w := eg_of Try.func18 (by kernel_rfl) rfl
theorem eg_19 : ∀ (args : Array Value) (w : World), (callFunc 19 args).run Try.prog w = .ok (.enter 19 args) w := eg_of Try.func19 (by kernel_rfl) rfl
theorem eg_20 : ∀ (args : Array Value) (w : World), (callFunc 20 args).run Try.prog w = .ok (.enter 20 args) w := eg_of Try.func20 (by kernel_rfl) rfl
theorem eg_21 : ∀ (args : Array Value) (w : World), (callFunc 21 args).run Try.prog w = .ok (.enter 21 args) w := eg_of Try.func21 (by kernel_rfl) rfl
theorem eg_22 : ∀ (args : Array Value) (w : World), (callFunc 22 args).run Try.prog w = .ok (.enter 22 args) w := eg_of Try.func22 (by kernel_rfl) rfl
theorem eg_23 : ∀ (args : Array Value) (w : World), (callFunc 23 args).run Try.prog w = .ok (.enter 23 args) w := eg_of Try.func23 (by kernel_rfl) rfl
theorem eg_24 : ∀ (args : Array Value) (w : World), (callFunc 24 args).run Try.prog w = .ok (.enter 24 args) w := eg_of Try.func24 (by kernel_rfl) rfl
theorem eg_25 : ∀ (args : Array Value) (w : World), (callFunc 25 args).run Try.prog w = .ok (.enter 25 args) w := eg_of Try.func25 (by kernel_rfl) rfl
theorem eg_26 : ∀ (args : Array Value) (w : World), (callFunc 26 args).run Try.prog w = .ok (.enter 26 args) w := eg_of Try.func26 (by kernel_rfl) rfl
theorem eg_27 : ∀ (args : Array Value) (w : World), (callFunc 27 args).run Try.prog w = .ok (.enter 27 args) w := eg_of Try.func27 (by kernel_rfl) rfl
theorem eg_28 : ∀ (args : Array Value) (w : World), (callFunc 28 args).run Try.prog w = .ok (.enter 28 args) w := eg_of Try.func28 (by kernel_rfl) rfl
theorem eg_29 : ∀ (args : Array Value) (w : World), (callFunc 29 args).run Try.prog w = .ok (.enter 29 args) w := eg_of Try.func29 (by kernel_rfl) rfl
theorem eg_30 : ∀ (args : Array Value) (w : World), (callFunc 30 args).run Try.prog w = .ok (.enter 30 args) w := eg_of Try.func30 (by kernel_rfl) rfl
theorem eg_31 : ∀ (args : Array Value) (w : World), (callFunc 31 args).run Try.prog w = .ok (.enter 31 args) w := eg_of Try.func31 (by kernel_rfl) rfl
theorem eg_32 : ∀ (args : Array Value) (w : World), (callFunc 32 args).run Try.prog w = .ok (.enter 32 args) w := eg_of Try.func32 (by kernel_rfl) rfl
theorem eg_33 : ∀ (args : Array Value) (w : World), (callFunc 33 args).run Try.prog w = .ok (.enter 33 args) w := eg_of Try.func33 (by kernel_rfl) rfl
theorem eg_34 : ∀ (args : Array Value) (w : World), (callFunc 34 args).run Try.prog w = .ok (.enter 34 args) w := eg_of Try.func34 (by kernel_rfl) rfl
theorem eg_35 : ∀ (args : Array Value) (w : World), (callFunc 35 args).run Try.prog w = .ok (.enter 35 args) w := eg_of Try.func35 (by kernel_rfl) rfl
theorem eg_36 : ∀ (args : Array Value) (w : World), (callFunc 36 args).run Try.prog w = .ok (.enter 36 args) w := eg_of Try.func36 (by kernel_rfl) rfl
theorem eg_37 : ∀ (args : Array Value) (w : World), (callFunc 37 args).run Try.prog w = .ok (.enter 37 args) w := eg_of Try.func37 (by kernel_rfl) rfl
theorem eg_38 : ∀ (args : Array Value) (w : World), (callFunc 38 args).run Try.prog w = .ok (.enter 38 args) w := eg_of Try.func38 (by kernel_rfl) rfl
theorem eg_39 : ∀ (args : Array Value) (w : World), (callFunc 39 args).run Try.prog w = .ok (.enter 39 args) w := eg_of Try.func39 (by kernel_rfl) rfl
theorem eg_40 : ∀ (args : Array Value) (w : World), (callFunc 40 args).run Try.prog w = .ok (.enter 40 args) w := eg_of Try.func40 (by kernel_rfl) rfl
theorem eg_41 : ∀ (args : Array Value) (w : World), (callFunc 41 args).run Try.prog w = .ok (.enter 41 args) w := eg_of Try.func41 (by kernel_rfl) rfl
theorem eg_42 : ∀ (args : Array Value) (w : World), (callFunc 42 args).run Try.prog w = .ok (.enter 42 args) w := eg_of Try.func42 (by kernel_rfl) rfl
theorem eg_43 : ∀ (args : Array Value) (w : World), (callFunc 43 args).run Try.prog w = .ok (.enter 43 args) w := eg_of Try.func43 (by kernel_rfl) rfl
theorem eg_44 : ∀ (args : Array Value) (w : World), (callFunc 44 args).run Try.prog w = .ok (.enter 44 args) w := eg_of Try.func44 (by kernel_rfl) rfl
theorem eg_45 : ∀ (args : Array Value) (w : World), (callFunc 45 args).run Try.prog w = .ok (.enter 45 args) w := eg_of Try.func45 (by kernel_rfl) rfl
theorem eg_46 : ∀ (args : Array Value) (w : World), (callFunc 46 args).run Try.prog w = .ok (.enter 46 args) w := eg_of Try.func46 (by kernel_rfl) rfl
theorem eg_47 : ∀ (args : Array Value) (w : World), (callFunc 47 args).run Try.prog w = .ok (.enter 47 args) w := eg_of Try.func47 (by kernel_rfl) rfl
theorem eg_48 : ∀ (args : Array Value) (w : World), (callFunc 48 args).run Try.prog w = .ok (.enter 48 args) w := eg_of Try.func48 (by kernel_rfl) rfl
theorem eg_49 : ∀ (args : Array Value) (w : World), (callFunc 49 args).run Try.prog w = .ok (.enter 49 args) w := eg_of Try.func49 (by kernel_rfl) rfl
theorem eg_50 : ∀ (args : Array Value) (w : World), (callFunc 50 args).run Try.prog w = .ok (.enter 50 args) w := eg_of Try.func50 (by kernel_rfl) rfl
theorem eg_51 : ∀ (args : Array Value) (w : World), (callFunc 51 args).run Try.prog w = .ok (.enter 51 args) w := eg_of Try.func51 (by kernel_rfl) rfl
theorem eg_52 : ∀ (args : Array Value) (w : World), (callFunc 52 args).run Try.prog w = .ok (.enter 52 args) w := eg_of Try.func52 (by kernel_rfl) rfl
theorem eg_53 : ∀ (args : Array Value) (w : World), (callFunc 53 args).run Try.prog w = .ok (.enter 53 args) w := eg_of Try.func53 (by kernel_rfl) rfl
theorem eg_54 : ∀ (args : Array Value) (w : World), (callFunc 54 args).run Try.prog w = .ok (.enter 54 args) w := eg_of Try.func54 (by kernel_rfl) rfl
theorem eg_55 : ∀ (args : Array Value) (w : World), (callFunc 55 args).run Try.prog w = .ok (.enter 55 args) w := eg_of Try.func55 (by kernel_rfl) rfl
theorem eg_56 : ∀ (args : Array Value) (w : World), (callFunc 56 args).run Try.prog w = .ok (.enter 56 args) w := eg_of Try.func56 (by kernel_rfl) rfl
theorem eg_58 : ∀ (args : Array Value) (w : World), (callFunc 58 args).run Try.prog w = .ok (.enter 58 args) w := eg_of Try.func58 (by kernel_rfl) rfl
theorem eg_59 : ∀ (args : Array Value) (w : World), (callFunc 59 args).run Try.prog w = .ok (.enter 59 args) w := eg_of Try.func59 (by kernel_rfl) rfl
theorem eg_60 : ∀ (args : Array Value) (w : World), (callFunc 60 args).run Try.prog w = .ok (.enter 60 args) w := eg_of Try.func60 (by kernel_rfl) rfl
theorem eg_61 : ∀ (args : Array Value) (w : World), (callFunc 61 args).run Try.prog w = .ok (.enter 61 args) w := eg_of Try.func61 (by kernel_rfl) rfl
theorem eg_62 : ∀ (args : Array Value) (w : World), (callFunc 62 args).run Try.prog w = .ok (.enter 62 args) w := eg_of Try.func62 (by kernel_rfl) rfl
theorem eg_64 : ∀ (args : Array Value) (w : World), (callFunc 64 args).run Try.prog w = .ok (.enter 64 args) w := eg_of Try.func64 (by kernel_rfl) rfl
theorem eg_69 : ∀ (args : Array Value) (w : World), (callFunc 69 args).run Try.prog w = .ok (.enter 69 args) w := eg_of Try.func69 (by kernel_rfl) rfl
theorem eg_72 : ∀ (args : Array Value) (w : World), (callFunc 72 args).run Try.prog w = .ok (.enter 72 args) w := eg_of Try.func72 (by kernel_rfl) rfl
theorem fld_7_0 (b o : Nat) (w : World) : (Instr.fieldAt 7 (.pointer (some ⟨b, o, none⟩)) 0).run Try.prog w = .ok (.pointer (some ⟨b, o + 0, none⟩)) w := by
  simp [Instr.fieldAt, run_underlying Try.underlying7, Instr.sureAddr, fieldPlace, Try.sizeOf2, Addr.add_lit]
theorem fld_7_1 (b o : Nat) (w : World) : (Instr.fieldAt 7 (.pointer (some ⟨b, o, none⟩)) 1).run Try.prog w = .ok (.pointer (some ⟨b, o + 1, none⟩)) w := by
  simp [Instr.fieldAt, run_underlying Try.underlying7, Instr.sureAddr, fieldPlace, Try.sizeOf3, Addr.add_lit]
theorem fld_7_2 (b o : Nat) (w : World) : (Instr.fieldAt 7 (.pointer (some ⟨b, o, none⟩)) 2).run Try.prog w = .ok (.pointer (some ⟨b, o + 2, none⟩)) w := by
  simp [Instr.fieldAt, run_underlying Try.underlying7, Instr.sureAddr, fieldPlace, Try.sizeOf4, Addr.add_lit]
theorem fld_7_3 (b o : Nat) (w : World) : (Instr.fieldAt 7 (.pointer (some ⟨b, o, none⟩)) 3).run Try.prog w = .ok (.pointer (some ⟨b, o + 3, none⟩)) w := by
  simp [Instr.fieldAt, run_underlying Try.underlying7, Instr.sureAddr, fieldPlace, Try.sizeOf6, Addr.add_lit]
theorem fld_13_0 (b o : Nat) (w : World) : (Instr.fieldAt 13 (.pointer (some ⟨b, o, none⟩)) 0).run Try.prog w = .ok (.pointer (some ⟨b, o + 0, none⟩)) w := by
  simp [Instr.fieldAt, run_underlying Try.underlying13, Instr.sureAddr, fieldPlace, Try.sizeOf9, Addr.add_lit]
theorem fld_13_1 (b o : Nat) (w : World) : (Instr.fieldAt 13 (.pointer (some ⟨b, o, none⟩)) 1).run Try.prog w = .ok (.pointer (some ⟨b, o + 1, none⟩)) w := by
  simp [Instr.fieldAt, run_underlying Try.underlying13, Instr.sureAddr, fieldPlace, Try.sizeOf12, Addr.add_lit]
theorem fld_18_0 (b o : Nat) (w : World) : (Instr.fieldAt 18 (.pointer (some ⟨b, o, none⟩)) 0).run Try.prog w = .ok (.pointer (some ⟨b, o + 0, none⟩)) w := by
  simp [Instr.fieldAt, run_underlying Try.underlying18, Instr.sureAddr, fieldPlace, Try.sizeOf17, Addr.add_lit]
theorem fld_40_0 (b o : Nat) (w : World) : (Instr.fieldAt 40 (.pointer (some ⟨b, o, none⟩)) 0).run Try.prog w = .ok (.pointer (some ⟨b, o + 0, none⟩)) w := by
  simp [Instr.fieldAt, run_underlying Try.underlying40, Instr.sureAddr, fieldPlace, Try.sizeOf22, Addr.add_lit]
theorem fld_40_1 (b o : Nat) (w : World) : (Instr.fieldAt 40 (.pointer (some ⟨b, o, none⟩)) 1).run Try.prog w = .ok (.pointer (some ⟨b, o + 1, none⟩)) w := by
  simp [Instr.fieldAt, run_underlying Try.underlying40, Instr.sureAddr, fieldPlace, Try.sizeOf33, Addr.add_lit]
theorem fld_40_2 (b o : Nat) (w : World) : (Instr.fieldAt 40 (.pointer (some ⟨b, o, none⟩)) 2).run Try.prog w = .ok (.pointer (some ⟨b, o + 2, none⟩)) w := by
  simp [Instr.fieldAt, run_underlying Try.underlying40, Instr.sureAddr, fieldPlace, Try.sizeOf23, Addr.add_lit]
theorem fld_41_0 (b o : Nat) (w : World) : (Instr.fieldAt 41 (.pointer (some ⟨b, o, none⟩)) 0).run Try.prog w = .ok (.pointer (some ⟨b, o + 0, none⟩)) w := by
  simp [Instr.fieldAt, run_underlying Try.underlying41, Instr.sureAddr, fieldPlace, Try.sizeOf22, Addr.add_lit]
theorem fld_41_1 (b o : Nat) (w : World) : (Instr.fieldAt 41 (.pointer (some ⟨b, o, none⟩)) 1).run Try.prog w = .ok (.pointer (some ⟨b, o + 1, none⟩)) w := by
  simp [Instr.fieldAt, run_underlying Try.underlying41, Instr.sureAddr, fieldPlace, Try.sizeOf33, Addr.add_lit]
theorem fld_41_2 (b o : Nat) (w : World) : (Instr.fieldAt 41 (.pointer (some ⟨b, o, none⟩)) 2).run Try.prog w = .ok (.pointer (some ⟨b, o + 2, none⟩)) w := by
  simp [Instr.fieldAt, run_underlying Try.underlying41, Instr.sureAddr, fieldPlace, Try.sizeOf23, Addr.add_lit]
theorem fld_54_1 (b o : Nat) (w : World) : (Instr.fieldAt 54 (.pointer (some ⟨b, o, none⟩)) 1).run Try.prog w = .ok (.pointer (some ⟨b, o + 0, none⟩)) w := by
  simp [Instr.fieldAt, run_underlying Try.underlying54, Instr.sureAddr, fieldPlace, Try.sizeOf53, Addr.add_lit]
theorem fld_55_1 (b o : Nat) (w : World) : (Instr.fieldAt 55 (.pointer (some ⟨b, o, none⟩)) 1).run Try.prog w = .ok (.pointer (some ⟨b, o + 0, none⟩)) w := by
  simp [Instr.fieldAt, run_underlying Try.underlying55, Instr.sureAddr, fieldPlace, Try.sizeOf53, Addr.add_lit]
theorem fld_56_0 (b o : Nat) (w : World) : (Instr.fieldAt 56 (.pointer (some ⟨b, o, none⟩)) 0).run Try.prog w = .ok (.pointer (some ⟨b, o + 0, none⟩)) w := by
  simp [Instr.fieldAt, run_underlying Try.underlying56, Instr.sureAddr, fieldPlace, Try.sizeOf21, Addr.add_lit]
theorem fld_56_1 (b o : Nat) (w : World) : (Instr.fieldAt 56 (.pointer (some ⟨b, o, none⟩)) 1).run Try.prog w = .ok (.pointer (some ⟨b, o + 1, none⟩)) w := by
  simp [Instr.fieldAt, run_underlying Try.underlying56, Instr.sureAddr, fieldPlace, Try.sizeOf53, Addr.add_lit]
theorem fld_57_0 (b o : Nat) (w : World) : (Instr.fieldAt 57 (.pointer (some ⟨b, o, none⟩)) 0).run Try.prog w = .ok (.pointer (some ⟨b, o + 0, none⟩)) w := by
  simp [Instr.fieldAt, run_underlying Try.underlying57, Instr.sureAddr, fieldPlace, Try.sizeOf21, Addr.add_lit]
theorem fld_57_1 (b o : Nat) (w : World) : (Instr.fieldAt 57 (.pointer (some ⟨b, o, none⟩)) 1).run Try.prog w = .ok (.pointer (some ⟨b, o + 1, none⟩)) w := by
  simp [Instr.fieldAt, run_underlying Try.underlying57, Instr.sureAddr, fieldPlace, Try.sizeOf53, Addr.add_lit]
theorem fld_58_1 (b o : Nat) (w : World) : (Instr.fieldAt 58 (.pointer (some ⟨b, o, none⟩)) 1).run Try.prog w = .ok (.pointer (some ⟨b, o + 0, none⟩)) w := by
  simp [Instr.fieldAt, run_underlying Try.underlying58, Instr.sureAddr, fieldPlace, Try.sizeOf57, Addr.add_lit]
theorem fld_59_1 (b o : Nat) (w : World) : (Instr.fieldAt 59 (.pointer (some ⟨b, o, none⟩)) 1).run Try.prog w = .ok (.pointer (some ⟨b, o + 0, none⟩)) w := by
  simp [Instr.fieldAt, run_underlying Try.underlying59, Instr.sureAddr, fieldPlace, Try.sizeOf57, Addr.add_lit]
theorem fld_60_1 (b o : Nat) (w : World) : (Instr.fieldAt 60 (.pointer (some ⟨b, o, none⟩)) 1).run Try.prog w = .ok (.pointer (some ⟨b, o + 0, none⟩)) w := by
  simp [Instr.fieldAt, run_underlying Try.underlying60, Instr.sureAddr, fieldPlace, Try.sizeOf55, Addr.add_lit]
theorem fld_60_2 (b o : Nat) (w : World) : (Instr.fieldAt 60 (.pointer (some ⟨b, o, none⟩)) 2).run Try.prog w = .ok (.pointer (some ⟨b, o + 1, none⟩)) w := by
  simp [Instr.fieldAt, run_underlying Try.underlying60, Instr.sureAddr, fieldPlace, Try.sizeOf59, Addr.add_lit]
theorem fld_61_1 (b o : Nat) (w : World) : (Instr.fieldAt 61 (.pointer (some ⟨b, o, none⟩)) 1).run Try.prog w = .ok (.pointer (some ⟨b, o + 0, none⟩)) w := by
  simp [Instr.fieldAt, run_underlying Try.underlying61, Instr.sureAddr, fieldPlace, Try.sizeOf55, Addr.add_lit]
theorem fld_61_2 (b o : Nat) (w : World) : (Instr.fieldAt 61 (.pointer (some ⟨b, o, none⟩)) 2).run Try.prog w = .ok (.pointer (some ⟨b, o + 1, none⟩)) w := by
  simp [Instr.fieldAt, run_underlying Try.underlying61, Instr.sureAddr, fieldPlace, Try.sizeOf59, Addr.add_lit]
theorem fld_64_0 (b o : Nat) (w : World) : (Instr.fieldAt 64 (.pointer (some ⟨b, o, none⟩)) 0).run Try.prog w = .ok (.pointer (some ⟨b, o + 0, none⟩)) w := by
  simp [Instr.fieldAt, run_underlying Try.underlying64, Instr.sureAddr, fieldPlace, Try.sizeOf61, Addr.add_lit]
theorem fld_64_1 (b o : Nat) (w : World) : (Instr.fieldAt 64 (.pointer (some ⟨b, o, none⟩)) 1).run Try.prog w = .ok (.pointer (some ⟨b, o + 3, none⟩)) w := by
  simp [Instr.fieldAt, run_underlying Try.underlying64, Instr.sureAddr, fieldPlace, Try.sizeOf62, Addr.add_lit]
theorem fld_64_2 (b o : Nat) (w : World) : (Instr.fieldAt 64 (.pointer (some ⟨b, o, none⟩)) 2).run Try.prog w = .ok (.pointer (some ⟨b, o + 513, none⟩)) w := by
  simp [Instr.fieldAt, run_underlying Try.underlying64, Instr.sureAddr, fieldPlace, Try.sizeOf63, Addr.add_lit]
theorem fld_65_0 (b o : Nat) (w : World) : (Instr.fieldAt 65 (.pointer (some ⟨b, o, none⟩)) 0).run Try.prog w = .ok (.pointer (some ⟨b, o + 0, none⟩)) w := by
  simp [Instr.fieldAt, run_underlying Try.underlying65, Instr.sureAddr, fieldPlace, Try.sizeOf61, Addr.add_lit]
theorem fld_65_1 (b o : Nat) (w : World) : (Instr.fieldAt 65 (.pointer (some ⟨b, o, none⟩)) 1).run Try.prog w = .ok (.pointer (some ⟨b, o + 3, none⟩)) w := by
  simp [Instr.fieldAt, run_underlying Try.underlying65, Instr.sureAddr, fieldPlace, Try.sizeOf62, Addr.add_lit]
theorem fld_65_2 (b o : Nat) (w : World) : (Instr.fieldAt 65 (.pointer (some ⟨b, o, none⟩)) 2).run Try.prog w = .ok (.pointer (some ⟨b, o + 513, none⟩)) w := by
  simp [Instr.fieldAt, run_underlying Try.underlying65, Instr.sureAddr, fieldPlace, Try.sizeOf63, Addr.add_lit]
theorem fld_109_0 (b o : Nat) (w : World) : (Instr.fieldAt 109 (.pointer (some ⟨b, o, none⟩)) 0).run Try.prog w = .ok (.pointer (some ⟨b, o + 0, none⟩)) w := by
  simp [Instr.fieldAt, run_underlying Try.underlying109, Instr.sureAddr, fieldPlace, Try.sizeOf17, Addr.add_lit]
theorem fld_109_1 (b o : Nat) (w : World) : (Instr.fieldAt 109 (.pointer (some ⟨b, o, none⟩)) 1).run Try.prog w = .ok (.pointer (some ⟨b, o + 1, none⟩)) w := by
  simp [Instr.fieldAt, run_underlying Try.underlying109, Instr.sureAddr, fieldPlace, Try.sizeOf17, Addr.add_lit]
theorem fld_109_2 (b o : Nat) (w : World) : (Instr.fieldAt 109 (.pointer (some ⟨b, o, none⟩)) 2).run Try.prog w = .ok (.pointer (some ⟨b, o + 2, none⟩)) w := by
  simp [Instr.fieldAt, run_underlying Try.underlying109, Instr.sureAddr, fieldPlace, Try.sizeOf17, Addr.add_lit]
theorem fld_109_3 (b o : Nat) (w : World) : (Instr.fieldAt 109 (.pointer (some ⟨b, o, none⟩)) 3).run Try.prog w = .ok (.pointer (some ⟨b, o + 3, none⟩)) w := by
  simp [Instr.fieldAt, run_underlying Try.underlying109, Instr.sureAddr, fieldPlace, Try.sizeOf9, Addr.add_lit]
theorem fld_121_0 (b o : Nat) (w : World) : (Instr.fieldAt 121 (.pointer (some ⟨b, o, none⟩)) 0).run Try.prog w = .ok (.pointer (some ⟨b, o + 0, none⟩)) w := by
  simp [Instr.fieldAt, run_underlying Try.underlying121, Instr.sureAddr, fieldPlace, Try.sizeOf12, Addr.add_lit]
theorem fld_121_1 (b o : Nat) (w : World) : (Instr.fieldAt 121 (.pointer (some ⟨b, o, none⟩)) 1).run Try.prog w = .ok (.pointer (some ⟨b, o + 1, none⟩)) w := by
  simp [Instr.fieldAt, run_underlying Try.underlying121, Instr.sureAddr, fieldPlace, Try.sizeOf12, Addr.add_lit]
theorem fld_121_2 (b o : Nat) (w : World) : (Instr.fieldAt 121 (.pointer (some ⟨b, o, none⟩)) 2).run Try.prog w = .ok (.pointer (some ⟨b, o + 2, none⟩)) w := by
  simp [Instr.fieldAt, run_underlying Try.underlying121, Instr.sureAddr, fieldPlace, Try.sizeOf53, Addr.add_lit]
theorem fld_121_3 (b o : Nat) (w : World) : (Instr.fieldAt 121 (.pointer (some ⟨b, o, none⟩)) 3).run Try.prog w = .ok (.pointer (some ⟨b, o + 3, none⟩)) w := by
  simp [Instr.fieldAt, run_underlying Try.underlying121, Instr.sureAddr, fieldPlace, Try.sizeOf115, Addr.add_lit]
theorem fld_121_4 (b o : Nat) (w : World) : (Instr.fieldAt 121 (.pointer (some ⟨b, o, none⟩)) 4).run Try.prog w = .ok (.pointer (some ⟨b, o + 4, none⟩)) w := by
  simp [Instr.fieldAt, run_underlying Try.underlying121, Instr.sureAddr, fieldPlace, Try.sizeOf5, Addr.add_lit]
theorem fld_121_5 (b o : Nat) (w : World) : (Instr.fieldAt 121 (.pointer (some ⟨b, o, none⟩)) 5).run Try.prog w = .ok (.pointer (some ⟨b, o + 5, none⟩)) w := by
  simp [Instr.fieldAt, run_underlying Try.underlying121, Instr.sureAddr, fieldPlace, Try.sizeOf5, Addr.add_lit]
theorem fld_121_6 (b o : Nat) (w : World) : (Instr.fieldAt 121 (.pointer (some ⟨b, o, none⟩)) 6).run Try.prog w = .ok (.pointer (some ⟨b, o + 6, none⟩)) w := by
  simp [Instr.fieldAt, run_underlying Try.underlying121, Instr.sureAddr, fieldPlace, Try.sizeOf116, Addr.add_lit]
theorem fld_121_7 (b o : Nat) (w : World) : (Instr.fieldAt 121 (.pointer (some ⟨b, o, none⟩)) 7).run Try.prog w = .ok (.pointer (some ⟨b, o + 7, none⟩)) w := by
  simp [Instr.fieldAt, run_underlying Try.underlying121, Instr.sureAddr, fieldPlace, Try.sizeOf117, Addr.add_lit]
theorem fld_121_8 (b o : Nat) (w : World) : (Instr.fieldAt 121 (.pointer (some ⟨b, o, none⟩)) 8).run Try.prog w = .ok (.pointer (some ⟨b, o + 8, none⟩)) w := by
  simp [Instr.fieldAt, run_underlying Try.underlying121, Instr.sureAddr, fieldPlace, Try.sizeOf118, Addr.add_lit]
theorem fld_121_9 (b o : Nat) (w : World) : (Instr.fieldAt 121 (.pointer (some ⟨b, o, none⟩)) 9).run Try.prog w = .ok (.pointer (some ⟨b, o + 9, none⟩)) w := by
  simp [Instr.fieldAt, run_underlying Try.underlying121, Instr.sureAddr, fieldPlace, Try.sizeOf119, Addr.add_lit]
theorem fld_121_10 (b o : Nat) (w : World) : (Instr.fieldAt 121 (.pointer (some ⟨b, o, none⟩)) 10).run Try.prog w = .ok (.pointer (some ⟨b, o + 10, none⟩)) w := by
  simp [Instr.fieldAt, run_underlying Try.underlying121, Instr.sureAddr, fieldPlace, Try.sizeOf120, Addr.add_lit]
theorem info_3 : (Try.prog.info? 3).map (fun i => (i.zero, i.size, i.bytes)) = some (some (.int .i64 0), 1, 8) := by kernel_rfl
theorem info_4 : (Try.prog.info? 4).map (fun i => (i.zero, i.size, i.bytes)) = some (some (.bool false), 1, 1) := by kernel_rfl
theorem info_5 : (Try.prog.info? 5).map (fun i => (i.zero, i.size, i.bytes)) = some (some (.int .u8 0), 1, 1) := by kernel_rfl
theorem info_23 : (Try.prog.info? 23).map (fun i => (i.zero, i.size, i.bytes)) = some (some (.slice none 0 0), 1, 24) := by kernel_rfl
theorem bld_84_0_1_2 (x0 : Int) (x1 : Int) (x2 : Int) (w : World) : (Instr.build 84 #[(0, .int .u8 x0), (1, .int .u8 x1), (2, .int .u8 x2)]).run Try.prog w = .ok (.agg #[.int .u8 x0, .int .u8 x1, .int .u8 x2]) w := by
  simp [Instr.build, run_underlying Try.underlying84, Try.zeroValue84, Instr.fill, Value.cells, Try.sizeOf5]
theorem mixed : Try.prog.follows .mixedOrders = true := by kernel_rfl
end Go.Proofs.Ytjdbjdgobhjbkaa
