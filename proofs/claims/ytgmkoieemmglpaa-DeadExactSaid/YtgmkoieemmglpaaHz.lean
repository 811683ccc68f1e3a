import Derived.Laws.ResultCell
import Derived.Test.YtgmkoieemmglpaaProg
import Derived.Test.YtgmkoieemmglpaaHi
namespace Go.Proofs.Ytgmkoieemmglpaa
open Go.RowKit Go.HL
theorem eg_2 : ∀ (args : Array Value) (w : World), (callFunc 2 args).run Try.prog w = .ok (.enter 2 args) w := eg_of Try.func2 (by kernel_rfl) rfl
theorem eg_3 : ∀ (args : Array Value) (w : World), (callFunc 3 args).run Try.prog w = .ok (.enter 3 args) w := eg_of Try.func3 (by kernel_rfl) rfl
theorem eg_4 : ∀ (args : Array Value) (w : World), (callFunc 4 args).run Try.prog w = .ok (.enter 4 args) w := eg_of Try.func4 (by kernel_rfl) rfl
theorem eg_5 : ∀ (args : Array Value) (w : World), (callFunc 5 args).run Try.prog w = .ok (.enter 5 args) w := eg_of Try.func5 (by kernel_rfl) rfl
theorem eg_6 : ∀ (args : Array Value) (w : World), (callFunc 6 args).run Try.prog w = .ok (.enter 6 args) w := eg_of Try.func6 (by kernel_rfl) rfl
theorem eg_7 : ∀ (args : Array Value) (w : World), (callFunc 7 args).run Try.prog w = .ok (.enter 7 args) w := eg_of Try.func7 (by kernel_rfl) rfl
theorem eg_8 : ∀ (args : Array Value) (w : World), (callFunc 8 args).run Try.prog w = .ok (.enter 8 args) w := eg_of Try.func8 (by kernel_rfl) rfl
theorem eg_9 : ∀ (args : Array Value) (w : World), (callFunc 9 args).run Try.prog w = .ok (.enter 9 args) w := eg_of Try.func9 (by kernel_rfl) rfl
theorem eg_10 : ∀ (args : Array Value) (w : World), (callFunc 10 args).run Try.prog w = .ok (.enter 10 args) w := eg_of Try.func10 (by kernel_rfl) rfl
theorem eg_11 : ∀ (args : Array Value) (w : World), (callFunc 11 args).run Try.prog w = .ok (.enter 11 args) w := eg_of Try.func11 (by kernel_rfl) rfl
theorem eg_12 : ∀ (args : Array Value) (w : World), (callFunc 12 args).run Try.prog w = .ok (.enter 12 args) w := eg_of Try.func12 (by kernel_rfl) rfl
theorem eg_13 : ∀ (args : Array Value) (w : World), (callFunc 13 args).run Try.prog w = .ok (.enter 13 args) w := eg_of Try.func13 (by kernel_rfl) rfl
theorem eg_14 : ∀ (args : Array Value) (w : World), (callFunc 14 args).run Try.prog w = .ok (.enter 14 args) w := eg_of Try.func14 (by kernel_rfl) rfl
theorem eg_15 : ∀ (args : Array Value) (w : World), (callFunc 15 args).run Try.prog w = .ok (.enter 15 args) w := eg_of Try.func15 (by kernel_rfl) rfl
theorem eg_16 : ∀ (args : Array Value) (w : World), (callFunc 16 args).run Try.prog w = .ok (.enter 16 args) w := eg_of Try.func16 (by kernel_rfl) rfl
theorem eg_17 : ∀ (args : Array Value) (w : World), (callFunc 17 args).run Try.prog w = .ok (.enter 17 args) w := eg_of Try.func17 (by kernel_rfl) rfl
theorem eg_18 : ∀ (args : Array Value) (w : World), (callFunc 18 args).run Try.prog w = .ok (.enter 18 args) w := eg_of Try.func18 (by kernel_rfl) rfl
theorem eg_19 : ∀ (args : Array Value) (w : World), (callFunc 19 args).run Try.prog w = .ok (.enter 19 args) w := eg_of Try.func19 (by kernel_rfl) rfl
theorem eg_20 : ∀ (args : Array Value) (w : World), (callFunc 20 args).run Try.prog w = .ok (.enter 20 args) w := eg_of Try.func20 (by kernel_rfl) rfl
theorem eg_21 : ∀ (args : Array Value) (w : World), (callFunc 21 args).run Try.prog w = .ok (.enter 21 args) w := eg_of Try.func21 (by kernel_rfl) rfl
theorem eg_22 : ∀ (args : Array Value) (w : World), (callFunc 22 args).run Try.prog w = .ok (.enter 22 args) w := eg_of Try.func22 (by kernel_rfl) rfl
theorem eg_23 : ∀ (args : Array Value) (w : World), (callFunc 23 args).run Try.prog w = .ok (.enter 23 args) w := eg_of Try.func23 (by kernel_rfl) rfl
theorem eg_24 : ∀ (args : Array Value) (w : World), (callFunc 24 args).run Try.prog w = .ok (.enter 24 args) w := eg_of Try.func24 (by kernel_rfl) rfl
theorem eg_25 : ∀ (args : Array Value) (w : World), (callFunc 25 args).run Try.prog w = .ok (.enter 25 args) w := eg_of Try.func25 (by kernel_rfl) rfl
theorem eg_26 : ∀ (args : Array Value) (w : World), (callFunc 26 args).run Try.prog w = .ok (.enter 26 args) w := eg_of Try.func26 (by kernel_rfl) rfl
theorem eg_27 : ∀ (args : Array Value) (w : World), (callFunc 27 args).run Try.prog w = .ok (.enter 27 args) w := eg_of Try.func27 (by kernel_rfl) rfl
theorem eg_28 : ∀ (args : Array Value) (w : World), (callFunc 28 args).run Try.prog w = .ok (.enter 28 args) w := eg_of Try.func28 (by kernel_rfl) rfl
theorem eg_29 : ∀ (args : Array Value) (w : World), (callFunc 29 args).run Try.prog w = .ok (.enter 29 args) w := eg_of Try.func29 (by kernel_rfl) rfl
theorem eg_30 : ∀ (args : Array Value) (w : World), (callFunc 30 args).run Try.prog w = .ok (.enter 30 args) w := eg_of Try.func30 (by kernel_rfl) rfl
theorem eg_31 : ∀ (args : Array Value) (w : World), (callFunc 31 args).run Try.prog w = .ok (.enter 31 args) w := eg_of Try.func31 (by kernel_rfl) rfl
theorem eg_32 : ∀ (args : Array Value) (w : World), (callFunc 32 args).run Try.prog w = .ok (.enter 32 args) w := eg_of Try.func32 (by kernel_rfl) rfl
theorem eg_33 : ∀ (args : Array Value) (w : World), (callFunc 33 args).run Try.prog w = .ok (.enter 33 args) w := eg_of Try.func33 (by kernel_rfl) rfl
theorem eg_34 : ∀ (args : Array Value) (w : World), (callFunc 34 args).run Try.prog w = .ok (.enter 34 args) w := eg_of Try.func34 (by kernel_rfl) rfl
theorem eg_35 : ∀ (args : Array Value) (w : World), (callFunc 35 args).run Try.prog w = .ok (.enter 35 args) w := eg_of Try.func35 (by kernel_rfl) rfl
theorem fld_7_0 (b o : Nat) (w : World) : (Instr.fieldAt 7 (.pointer (some ⟨b, o, none⟩)) 0).run Try.prog w = .ok (.pointer (some ⟨b, o + 0, none⟩)) w := by
  simp [Instr.fieldAt, run_underlying Try.underlying7, Instr.sureAddr, fieldPlace, Try.sizeOf2, Addr.add_lit]
theorem fld_7_1 (b o : Nat) (w : World) : (Instr.fieldAt 7 (.pointer (some ⟨b, o, none⟩)) 1).run Try.prog w = .ok (.pointer (some ⟨b, o + 1, none⟩)) w := by
  simp [Instr.fieldAt, run_underlying Try.underlying7, Instr.sureAddr, fieldPlace, Try.sizeOf3, Addr.add_lit]
theorem fld_7_2 (b o : Nat) (w : World) : (Instr.fieldAt 7 (.pointer (some ⟨b, o, none⟩)) 2).run Try.prog w = .ok (.pointer (some ⟨b, o + 2, none⟩)) w := by
  simp [Instr.fieldAt, run_underlying Try.underlying7, Instr.sureAddr, fieldPlace, Try.sizeOf4, Addr.add_lit]
theorem fld_7_3 (b o : Nat) (w : World) : (Instr.fieldAt 7 (.pointer (some ⟨b, o, none⟩)) 3).run Try.prog w = .ok (.pointer (some ⟨b, o + 3, none⟩)) w := by
  simp [Instr.fieldAt, run_underlying Try.underlying7, Instr.sureAddr, fieldPlace, Try.sizeOf6, Addr.add_lit]
theorem fld_13_0 (b o : Nat) (w : World) : (Instr.fieldAt 13 (.pointer (some ⟨b, o, none⟩)) 0).run Try.prog w = .ok (.pointer (some ⟨b, o + 0, none⟩)) w := by
  simp [Instr.fieldAt, run_underlying Try.underlying13, Instr.sureAddr, fieldPlace, Try.sizeOf9, Addr.add_lit]
theorem fld_13_1 (b o : Nat) (w : World) : (Instr.fieldAt 13 (.pointer (some ⟨b, o, none⟩)) 1).run Try.prog w = .ok (.pointer (some ⟨b, o + 1, none⟩)) w := by
  simp [Instr.fieldAt, run_underlying Try.underlying13, Instr.sureAddr, fieldPlace, Try.sizeOf12, Addr.add_lit]
theorem fld_18_0 (b o : Nat) (w : World) : (Instr.fieldAt 18 (.pointer (some ⟨b, o, none⟩)) 0).run Try.prog w = .ok (.pointer (some ⟨b, o + 0, none⟩)) w := by
  simp [Instr.fieldAt, run_underlying Try.underlying18, Instr.sureAddr, fieldPlace, Try.sizeOf17, Addr.add_lit]
theorem fld_24_0 (b o : Nat) (w : World) : (Instr.fieldAt 24 (.pointer (some ⟨b, o, none⟩)) 0).run Try.prog w = .ok (.pointer (some ⟨b, o + 0, none⟩)) w := by
  simp [Instr.fieldAt, run_underlying Try.underlying24, Instr.sureAddr, fieldPlace, Try.sizeOf3, Addr.add_lit]
theorem fld_24_1 (b o : Nat) (w : World) : (Instr.fieldAt 24 (.pointer (some ⟨b, o, none⟩)) 1).run Try.prog w = .ok (.pointer (some ⟨b, o + 1, none⟩)) w := by
  simp [Instr.fieldAt, run_underlying Try.underlying24, Instr.sureAddr, fieldPlace, Try.sizeOf22, Addr.add_lit]
theorem fld_24_2 (b o : Nat) (w : World) : (Instr.fieldAt 24 (.pointer (some ⟨b, o, none⟩)) 2).run Try.prog w = .ok (.pointer (some ⟨b, o + 2, none⟩)) w := by
  simp [Instr.fieldAt, run_underlying Try.underlying24, Instr.sureAddr, fieldPlace, Try.sizeOf23, Addr.add_lit]
theorem fld_25_0 (b o : Nat) (w : World) : (Instr.fieldAt 25 (.pointer (some ⟨b, o, none⟩)) 0).run Try.prog w = .ok (.pointer (some ⟨b, o + 0, none⟩)) w := by
  simp [Instr.fieldAt, run_underlying Try.underlying25, Instr.sureAddr, fieldPlace, Try.sizeOf3, Addr.add_lit]
theorem fld_25_1 (b o : Nat) (w : World) : (Instr.fieldAt 25 (.pointer (some ⟨b, o, none⟩)) 1).run Try.prog w = .ok (.pointer (some ⟨b, o + 1, none⟩)) w := by
  simp [Instr.fieldAt, run_underlying Try.underlying25, Instr.sureAddr, fieldPlace, Try.sizeOf22, Addr.add_lit]
theorem fld_25_2 (b o : Nat) (w : World) : (Instr.fieldAt 25 (.pointer (some ⟨b, o, none⟩)) 2).run Try.prog w = .ok (.pointer (some ⟨b, o + 2, none⟩)) w := by
  simp [Instr.fieldAt, run_underlying Try.underlying25, Instr.sureAddr, fieldPlace, Try.sizeOf23, Addr.add_lit]
theorem fld_26_0 (b o : Nat) (w : World) : (Instr.fieldAt 26 (.pointer (some ⟨b, o, none⟩)) 0).run Try.prog w = .ok (.pointer (some ⟨b, o + 0, none⟩)) w := by
  simp [Instr.fieldAt, run_underlying Try.underlying26, Instr.sureAddr, fieldPlace, Try.sizeOf3, Addr.add_lit]
theorem fld_26_1 (b o : Nat) (w : World) : (Instr.fieldAt 26 (.pointer (some ⟨b, o, none⟩)) 1).run Try.prog w = .ok (.pointer (some ⟨b, o + 1, none⟩)) w := by
  simp [Instr.fieldAt, run_underlying Try.underlying26, Instr.sureAddr, fieldPlace, Try.sizeOf3, Addr.add_lit]
theorem fld_26_2 (b o : Nat) (w : World) : (Instr.fieldAt 26 (.pointer (some ⟨b, o, none⟩)) 2).run Try.prog w = .ok (.pointer (some ⟨b, o + 2, none⟩)) w := by
  simp [Instr.fieldAt, run_underlying Try.underlying26, Instr.sureAddr, fieldPlace, Try.sizeOf3, Addr.add_lit]
theorem fld_26_3 (b o : Nat) (w : World) : (Instr.fieldAt 26 (.pointer (some ⟨b, o, none⟩)) 3).run Try.prog w = .ok (.pointer (some ⟨b, o + 3, none⟩)) w := by
  simp [Instr.fieldAt, run_underlying Try.underlying26, Instr.sureAddr, fieldPlace, Try.sizeOf9, Addr.add_lit]
theorem fld_27_0 (b o : Nat) (w : World) : (Instr.fieldAt 27 (.pointer (some ⟨b, o, none⟩)) 0).run Try.prog w = .ok (.pointer (some ⟨b, o + 0, none⟩)) w := by
  simp [Instr.fieldAt, run_underlying Try.underlying27, Instr.sureAddr, fieldPlace, Try.sizeOf3, Addr.add_lit]
theorem fld_27_1 (b o : Nat) (w : World) : (Instr.fieldAt 27 (.pointer (some ⟨b, o, none⟩)) 1).run Try.prog w = .ok (.pointer (some ⟨b, o + 1, none⟩)) w := by
  simp [Instr.fieldAt, run_underlying Try.underlying27, Instr.sureAddr, fieldPlace, Try.sizeOf3, Addr.add_lit]
theorem fld_27_2 (b o : Nat) (w : World) : (Instr.fieldAt 27 (.pointer (some ⟨b, o, none⟩)) 2).run Try.prog w = .ok (.pointer (some ⟨b, o + 2, none⟩)) w := by
  simp [Instr.fieldAt, run_underlying Try.underlying27, Instr.sureAddr, fieldPlace, Try.sizeOf3, Addr.add_lit]
theorem fld_27_3 (b o : Nat) (w : World) : (Instr.fieldAt 27 (.pointer (some ⟨b, o, none⟩)) 3).run Try.prog w = .ok (.pointer (some ⟨b, o + 3, none⟩)) w := by
  simp [Instr.fieldAt, run_underlying Try.underlying27, Instr.sureAddr, fieldPlace, Try.sizeOf9, Addr.add_lit]
theorem fld_32_0 (b o : Nat) (w : World) : (Instr.fieldAt 32 (.pointer (some ⟨b, o, none⟩)) 0).run Try.prog w = .ok (.pointer (some ⟨b, o + 0, none⟩)) w := by
  simp [Instr.fieldAt, run_underlying Try.underlying32, Instr.sureAddr, fieldPlace, Try.sizeOf3, Addr.add_lit]
theorem fld_32_1 (b o : Nat) (w : World) : (Instr.fieldAt 32 (.pointer (some ⟨b, o, none⟩)) 1).run Try.prog w = .ok (.pointer (some ⟨b, o + 1, none⟩)) w := by
  simp [Instr.fieldAt, run_underlying Try.underlying32, Instr.sureAddr, fieldPlace, Try.sizeOf31, Addr.add_lit]
theorem fld_32_2 (b o : Nat) (w : World) : (Instr.fieldAt 32 (.pointer (some ⟨b, o, none⟩)) 2).run Try.prog w = .ok (.pointer (some ⟨b, o + 2, none⟩)) w := by
  simp [Instr.fieldAt, run_underlying Try.underlying32, Instr.sureAddr, fieldPlace, Try.sizeOf23, Addr.add_lit]
theorem fld_33_0 (b o : Nat) (w : World) : (Instr.fieldAt 33 (.pointer (some ⟨b, o, none⟩)) 0).run Try.prog w = .ok (.pointer (some ⟨b, o + 0, none⟩)) w := by
  simp [Instr.fieldAt, run_underlying Try.underlying33, Instr.sureAddr, fieldPlace, Try.sizeOf3, Addr.add_lit]
theorem fld_33_1 (b o : Nat) (w : World) : (Instr.fieldAt 33 (.pointer (some ⟨b, o, none⟩)) 1).run Try.prog w = .ok (.pointer (some ⟨b, o + 1, none⟩)) w := by
  simp [Instr.fieldAt, run_underlying Try.underlying33, Instr.sureAddr, fieldPlace, Try.sizeOf31, Addr.add_lit]
theorem fld_33_2 (b o : Nat) (w : World) : (Instr.fieldAt 33 (.pointer (some ⟨b, o, none⟩)) 2).run Try.prog w = .ok (.pointer (some ⟨b, o + 2, none⟩)) w := by
  simp [Instr.fieldAt, run_underlying Try.underlying33, Instr.sureAddr, fieldPlace, Try.sizeOf23, Addr.add_lit]
theorem fld_58_0 (b o : Nat) (w : World) : (Instr.fieldAt 58 (.pointer (some ⟨b, o, none⟩)) 0).run Try.prog w = .ok (.pointer (some ⟨b, o + 0, none⟩)) w := by
  simp [Instr.fieldAt, run_underlying Try.underlying58, Instr.sureAddr, fieldPlace, Try.sizeOf3, Addr.add_lit]
theorem fld_58_1 (b o : Nat) (w : World) : (Instr.fieldAt 58 (.pointer (some ⟨b, o, none⟩)) 1).run Try.prog w = .ok (.pointer (some ⟨b, o + 1, none⟩)) w := by
  simp [Instr.fieldAt, run_underlying Try.underlying58, Instr.sureAddr, fieldPlace, Try.sizeOf3, Addr.add_lit]
theorem fld_59_0 (b o : Nat) (w : World) : (Instr.fieldAt 59 (.pointer (some ⟨b, o, none⟩)) 0).run Try.prog w = .ok (.pointer (some ⟨b, o + 0, none⟩)) w := by
  simp [Instr.fieldAt, run_underlying Try.underlying59, Instr.sureAddr, fieldPlace, Try.sizeOf3, Addr.add_lit]
theorem fld_59_1 (b o : Nat) (w : World) : (Instr.fieldAt 59 (.pointer (some ⟨b, o, none⟩)) 1).run Try.prog w = .ok (.pointer (some ⟨b, o + 1, none⟩)) w := by
  simp [Instr.fieldAt, run_underlying Try.underlying59, Instr.sureAddr, fieldPlace, Try.sizeOf3, Addr.add_lit]
theorem fld_64_0 (b o : Nat) (w : World) : (Instr.fieldAt 64 (.pointer (some ⟨b, o, none⟩)) 0).run Try.prog w = .ok (.pointer (some ⟨b, o + 0, none⟩)) w := by
  simp [Instr.fieldAt, run_underlying Try.underlying64, Instr.sureAddr, fieldPlace, Try.sizeOf3, Addr.add_lit]
theorem fld_64_1 (b o : Nat) (w : World) : (Instr.fieldAt 64 (.pointer (some ⟨b, o, none⟩)) 1).run Try.prog w = .ok (.pointer (some ⟨b, o + 1, none⟩)) w := by
  simp [Instr.fieldAt, run_underlying Try.underlying64, Instr.sureAddr, fieldPlace, Try.sizeOf23, Addr.add_lit]
theorem fld_65_0 (b o : Nat) (w : World) : (Instr.fieldAt 65 (.pointer (some ⟨b, o, none⟩)) 0).run Try.prog w = .ok (.pointer (some ⟨b, o + 0, none⟩)) w := by
  simp [Instr.fieldAt, run_underlying Try.underlying65, Instr.sureAddr, fieldPlace, Try.sizeOf3, Addr.add_lit]
theorem fld_65_1 (b o : Nat) (w : World) : (Instr.fieldAt 65 (.pointer (some ⟨b, o, none⟩)) 1).run Try.prog w = .ok (.pointer (some ⟨b, o + 1, none⟩)) w := by
  simp [Instr.fieldAt, run_underlying Try.underlying65, Instr.sureAddr, fieldPlace, Try.sizeOf23, Addr.add_lit]
theorem fld_72_0 (b o : Nat) (w : World) : (Instr.fieldAt 72 (.pointer (some ⟨b, o, none⟩)) 0).run Try.prog w = .ok (.pointer (some ⟨b, o + 0, none⟩)) w := by
  simp [Instr.fieldAt, run_underlying Try.underlying72, Instr.sureAddr, fieldPlace, Try.sizeOf3, Addr.add_lit]
theorem fld_72_1 (b o : Nat) (w : World) : (Instr.fieldAt 72 (.pointer (some ⟨b, o, none⟩)) 1).run Try.prog w = .ok (.pointer (some ⟨b, o + 1, none⟩)) w := by
  simp [Instr.fieldAt, run_underlying Try.underlying72, Instr.sureAddr, fieldPlace, Try.sizeOf23, Addr.add_lit]
theorem fld_83_0 (b o : Nat) (w : World) : (Instr.fieldAt 83 (.pointer (some ⟨b, o, none⟩)) 0).run Try.prog w = .ok (.pointer (some ⟨b, o + 0, none⟩)) w := by
  simp [Instr.fieldAt, run_underlying Try.underlying83, Instr.sureAddr, fieldPlace, Try.sizeOf17, Addr.add_lit]
theorem fld_83_1 (b o : Nat) (w : World) : (Instr.fieldAt 83 (.pointer (some ⟨b, o, none⟩)) 1).run Try.prog w = .ok (.pointer (some ⟨b, o + 1, none⟩)) w := by
  simp [Instr.fieldAt, run_underlying Try.underlying83, Instr.sureAddr, fieldPlace, Try.sizeOf17, Addr.add_lit]
theorem fld_83_2 (b o : Nat) (w : World) : (Instr.fieldAt 83 (.pointer (some ⟨b, o, none⟩)) 2).run Try.prog w = .ok (.pointer (some ⟨b, o + 2, none⟩)) w := by
  simp [Instr.fieldAt, run_underlying Try.underlying83, Instr.sureAddr, fieldPlace, Try.sizeOf17, Addr.add_lit]
theorem fld_83_3 (b o : Nat) (w : World) : (Instr.fieldAt 83 (.pointer (some ⟨b, o, none⟩)) 3).run Try.prog w = .ok (.pointer (some ⟨b, o + 3, none⟩)) w := by
  simp [Instr.fieldAt, run_underlying Try.underlying83, Instr.sureAddr, fieldPlace, Try.sizeOf9, Addr.add_lit]
theorem fld_95_0 (b o : Nat) (w : World) : (Instr.fieldAt 95 (.pointer (some ⟨b, o, none⟩)) 0).run Try.prog w = .ok (.pointer (some ⟨b, o + 0, none⟩)) w := by
  simp [Instr.fieldAt, run_underlying Try.underlying95, Instr.sureAddr, fieldPlace, Try.sizeOf12, Addr.add_lit]
theorem fld_95_1 (b o : Nat) (w : World) : (Instr.fieldAt 95 (.pointer (some ⟨b, o, none⟩)) 1).run Try.prog w = .ok (.pointer (some ⟨b, o + 1, none⟩)) w := by
  simp [Instr.fieldAt, run_underlying Try.underlying95, Instr.sureAddr, fieldPlace, Try.sizeOf12, Addr.add_lit]
theorem fld_95_2 (b o : Nat) (w : World) : (Instr.fieldAt 95 (.pointer (some ⟨b, o, none⟩)) 2).run Try.prog w = .ok (.pointer (some ⟨b, o + 2, none⟩)) w := by
  simp [Instr.fieldAt, run_underlying Try.underlying95, Instr.sureAddr, fieldPlace, Try.sizeOf88, Addr.add_lit]
theorem fld_95_3 (b o : Nat) (w : World) : (Instr.fieldAt 95 (.pointer (some ⟨b, o, none⟩)) 3).run Try.prog w = .ok (.pointer (some ⟨b, o + 3, none⟩)) w := by
  simp [Instr.fieldAt, run_underlying Try.underlying95, Instr.sureAddr, fieldPlace, Try.sizeOf89, Addr.add_lit]
theorem fld_95_4 (b o : Nat) (w : World) : (Instr.fieldAt 95 (.pointer (some ⟨b, o, none⟩)) 4).run Try.prog w = .ok (.pointer (some ⟨b, o + 4, none⟩)) w := by
  simp [Instr.fieldAt, run_underlying Try.underlying95, Instr.sureAddr, fieldPlace, Try.sizeOf5, Addr.add_lit]
theorem fld_95_5 (b o : Nat) (w : World) : (Instr.fieldAt 95 (.pointer (some ⟨b, o, none⟩)) 5).run Try.prog w = .ok (.pointer (some ⟨b, o + 5, none⟩)) w := by
  simp [Instr.fieldAt, run_underlying Try.underlying95, Instr.sureAddr, fieldPlace, Try.sizeOf5, Addr.add_lit]
theorem fld_95_6 (b o : Nat) (w : World) : (Instr.fieldAt 95 (.pointer (some ⟨b, o, none⟩)) 6).run Try.prog w = .ok (.pointer (some ⟨b, o + 6, none⟩)) w := by
  simp [Instr.fieldAt, run_underlying Try.underlying95, Instr.sureAddr, fieldPlace, Try.sizeOf90, Addr.add_lit]
theorem fld_95_7 (b o : Nat) (w : World) : (Instr.fieldAt 95 (.pointer (some ⟨b, o, none⟩)) 7).run Try.prog w = .ok (.pointer (some ⟨b, o + 7, none⟩)) w := by
  simp [Instr.fieldAt, run_underlying Try.underlying95, Instr.sureAddr, fieldPlace, Try.sizeOf91, Addr.add_lit]
theorem fld_95_8 (b o : Nat) (w : World) : (Instr.fieldAt 95 (.pointer (some ⟨b, o, none⟩)) 8).run Try.prog w = .ok (.pointer (some ⟨b, o + 8, none⟩)) w := by
  simp [Instr.fieldAt, run_underlying Try.underlying95, Instr.sureAddr, fieldPlace, Try.sizeOf92, Addr.add_lit]
theorem fld_95_9 (b o : Nat) (w : World) : (Instr.fieldAt 95 (.pointer (some ⟨b, o, none⟩)) 9).run Try.prog w = .ok (.pointer (some ⟨b, o + 9, none⟩)) w := by
  simp [Instr.fieldAt, run_underlying Try.underlying95, Instr.sureAddr, fieldPlace, Try.sizeOf93, Addr.add_lit]
theorem fld_95_10 (b o : Nat) (w : World) : (Instr.fieldAt 95 (.pointer (some ⟨b, o, none⟩)) 10).run Try.prog w = .ok (.pointer (some ⟨b, o + 10, none⟩)) w := by
  simp [Instr.fieldAt, run_underlying Try.underlying95, Instr.sureAddr, fieldPlace, Try.sizeOf94, Addr.add_lit]
theorem info_3 : (Try.prog.info? 3).map (fun i => (i.zero, i.size, i.bytes)) = some (some (.int .i64 0), 1, 8) := by kernel_rfl
theorem info_4 : (Try.prog.info? 4).map (fun i => (i.zero, i.size, i.bytes)) = some (some (.bool false), 1, 1) := by kernel_rfl
theorem info_27 : (Try.prog.info? 27).map (fun i => (i.zero, i.size, i.bytes)) = some (some (.agg #[(.int .i64 0), (.int .i64 0), (.int .i64 0), (.string ⟨#[]⟩)]), 4, 40) := by kernel_rfl
theorem info_33 : (Try.prog.info? 33).map (fun i => (i.zero, i.size, i.bytes)) = some (some (.agg #[(.int .i64 0), (.slice none 0 0), (.slice none 0 0)]), 3, 56) := by kernel_rfl
theorem info_55 : (Try.prog.info? 55).map (fun i => (i.zero, i.size, i.bytes)) = some (some (.slice none 0 0), 1, 24) := by kernel_rfl
theorem info_59 : (Try.prog.info? 59).map (fun i => (i.zero, i.size, i.bytes)) = some (some (.agg #[(.int .i64 0), (.int .i64 0)]), 2, 16) := by kernel_rfl
theorem info_65 : (Try.prog.info? 65).map (fun i => (i.zero, i.size, i.bytes)) = some (some (.agg #[(.int .i64 0), (.slice none 0 0)]), 2, 32) := by kernel_rfl
theorem info_72 : (Try.prog.info? 72).map (fun i => (i.zero, i.size, i.bytes)) = some (some (.agg #[(.int .i64 0), (.slice none 0 0)]), 2, 32) := by kernel_rfl
theorem bld_33_0 (x0 : Int) (w : World) : (Instr.build 33 #[(0, .int .i64 x0)]).run Try.prog w = .ok (.agg #[.int .i64 x0, (.slice none 0 0), (.slice none 0 0)]) w := by
  simp [Instr.build, run_underlying Try.underlying33, Try.zeroValue33, Instr.fill, Value.cells, Try.sizeOf3, Try.sizeOf23, Try.sizeOf31]
theorem bld_27_0_2 (x0 : Int) (x1 : Int) (w : World) : (Instr.build 27 #[(0, .int .i64 x0), (2, .int .i64 x1)]).run Try.prog w = .ok (.agg #[.int .i64 x0, (.int .i64 0), .int .i64 x1, (.string ⟨#[]⟩)]) w := by
  simp [Instr.build, run_underlying Try.underlying27, Try.zeroValue27, Instr.fill, Value.cells, Try.sizeOf3, Try.sizeOf9]
theorem bld_27_0 (x0 : Int) (w : World) : (Instr.build 27 #[(0, .int .i64 x0)]).run Try.prog w = .ok (.agg #[.int .i64 x0, (.int .i64 0), (.int .i64 0), (.string ⟨#[]⟩)]) w := by
  simp [Instr.build, run_underlying Try.underlying27, Try.zeroValue27, Instr.fill, Value.cells, Try.sizeOf3, Try.sizeOf9]
theorem bld_27_z  (w : World) : (Instr.build 27 #[]).run Try.prog w = .ok (.agg #[(.int .i64 0), (.int .i64 0), (.int .i64 0), (.string ⟨#[]⟩)]) w := by
  simp [Instr.build, run_underlying Try.underlying27, Try.zeroValue27, Instr.fill, Value.cells, Try.sizeOf3, Try.sizeOf9]
theorem bld_33_z  (w : World) : (Instr.build 33 #[]).run Try.prog w = .ok (.agg #[(.int .i64 0), (.slice none 0 0), (.slice none 0 0)]) w := by
  simp [Instr.build, run_underlying Try.underlying33, Try.zeroValue33, Instr.fill, Value.cells, Try.sizeOf3, Try.sizeOf23, Try.sizeOf31]
theorem bld_27_2 (x0 : Int) (w : World) : (Instr.build 27 #[(2, .int .i64 x0)]).run Try.prog w = .ok (.agg #[(.int .i64 0), (.int .i64 0), .int .i64 x0, (.string ⟨#[]⟩)]) w := by
  simp [Instr.build, run_underlying Try.underlying27, Try.zeroValue27, Instr.fill, Value.cells, Try.sizeOf3, Try.sizeOf9]
theorem bld_33_0_2 (x0 : Int) (xa1 : Option Addr) (xn1 xc1 : Nat) (w : World) : (Instr.build 33 #[(0, .int .i64 x0), (2, .slice xa1 xn1 xc1)]).run Try.prog w = .ok (.agg #[.int .i64 x0, (.slice none 0 0), .slice xa1 xn1 xc1]) w := by
  simp [Instr.build, run_underlying Try.underlying33, Try.zeroValue33, Instr.fill, Value.cells, Try.sizeOf3, Try.sizeOf23, Try.sizeOf31]
theorem bld_65_0_1 (x0 : Int) (xa1 : Option Addr) (xn1 xc1 : Nat) (w : World) : (Instr.build 65 #[(0, .int .i64 x0), (1, .slice xa1 xn1 xc1)]).run Try.prog w = .ok (.agg #[.int .i64 x0, .slice xa1 xn1 xc1]) w := by
  simp [Instr.build, run_underlying Try.underlying65, Try.zeroValue65, Instr.fill, Value.cells, Try.sizeOf3, Try.sizeOf23]
theorem bld_25_z  (w : World) : (Instr.build 25 #[]).run Try.prog w = .ok (.agg #[(.int .i64 0), (.slice none 0 0), (.slice none 0 0)]) w := by
  simp [Instr.build, run_underlying Try.underlying25, Try.zeroValue25, Instr.fill, Value.cells, Try.sizeOf3, Try.sizeOf22, Try.sizeOf23]
theorem bld_25_0_2 (x0 : Int) (xa1 : Option Addr) (xn1 xc1 : Nat) (w : World) : (Instr.build 25 #[(0, .int .i64 x0), (2, .slice xa1 xn1 xc1)]).run Try.prog w = .ok (.agg #[.int .i64 x0, (.slice none 0 0), .slice xa1 xn1 xc1]) w := by
  simp [Instr.build, run_underlying Try.underlying25, Try.zeroValue25, Instr.fill, Value.cells, Try.sizeOf3, Try.sizeOf22, Try.sizeOf23]
theorem bld_72_0_1 (x0 : Int) (xa1 : Option Addr) (xn1 xc1 : Nat) (w : World) : (Instr.build 72 #[(0, .int .i64 x0), (1, .slice xa1 xn1 xc1)]).run Try.prog w = .ok (.agg #[.int .i64 x0, .slice xa1 xn1 xc1]) w := by
  simp [Instr.build, run_underlying Try.underlying72, Try.zeroValue72, Instr.fill, Value.cells, Try.sizeOf3, Try.sizeOf23]
theorem mixed : Try.prog.follows .mixedOrders = true := by kernel_rfl
end Go.Proofs.Ytgmkoieemmglpaa
