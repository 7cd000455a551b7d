/- What every law of these layers asks first, 'begun' of layers 7 and 8, comes out true: the printed walk, evaluated. -/
import Derived.Test.YtddepomgaeadpaaGreatDoorPBegx15
import Derived.KernelRfl
namespace Go.Proofs.YtddepomgaeadpaaGreatDoor.PBeg
open Go.RowKit Go.Proofs.YtddepomgaeadpaaGreatDoorW.PrintWords
set_option maxRecDepth 100000
def txtC : ByteArray := ⟨#[99, 111, 114, 101, 115, 32, 50, 32, 115, 121, 110, 99, 115, 32, 49, 32, 108, 97, 103, 32, 49, 32, 109, 111, 118, 101, 32, 48, 32, 114, 101, 115, 32, 48]⟩
def txtT : ByteArray := ⟨#[51, 47, 56, 47, 49, 48, 32, 48, 64, 49, 43, 50]⟩
theorem b1 : note_PutConfig.f 100 2 1 1 0 [0] = some txtC := by kernel_rfl
theorem b2 : note_PutTask.f 100 3 8 10 [⟨0, 1, 2⟩] = some txtT := by kernel_rfl
theorem b3 : note_GetConfig.f 100 txtC = some (2, 1, 1, 0, [0], 0) := by kernel_rfl
theorem b4 : note_GetTask.f 100 2 1 1 0 [0] txtT = some (3, 8, 10, [⟨0, 1, 2⟩], 0) := by kernel_rfl
theorem b5 : note_GetTask.f 100 1 0 0 0 [] txtT = some (0, 0, 0, [], 1) := by kernel_rfl
theorem b6 : hortatorlaw1_Begun.f 100 = some true := by kernel_rfl
theorem b7 : rule_Task.f 100 2 1 1 0 [0] 3 8 10 [⟨0, 1, 2⟩] = some true := by kernel_rfl
theorem b8 : rule_Same.f 100 3 8 10 [⟨0, 1, 2⟩] 3 8 10 [⟨0, 1, 2⟩] = some true := by kernel_rfl
theorem b9 : agentsOf [0] [⟨0, 1, 2⟩] = [0] := by
  unfold agentsOf
  rw [List.map_cons, List.map_nil, List.mergeSort_singleton]
  kernel_rfl
theorem b10 : rule_Agents.f 100 2 1 1 0 [0] 3 8 10 [⟨0, 1, 2⟩] = some [0] := by
  unfold rule_Agents.f
  rw [if_pos (by kernel_rfl), b7, Option.bind_some, if_pos rfl, if_pos (by kernel_rfl), if_pos (by decide), b9]
theorem begun_pure : hortatorlaw7_Begun.f 100 = some true := by
  unfold hortatorlaw7_Begun.f hortatorlaw7_begun.f
  simp only [Option.bind_some]
  rw [b1, Option.bind_some, b2, Option.bind_some, b3, Option.bind_some, b4, Option.bind_some, b5, Option.bind_some, b6, Option.bind_some, if_pos rfl]
  rw [show rule_Config.f 2 1 1 0 [0] = some true by kernel_rfl, Option.bind_some, if_pos rfl, b7, Option.bind_some, if_pos rfl]
  rw [show rule_Config.f 0 0 0 0 [] = some false by kernel_rfl, Option.bind_some, if_neg (by decide)]
  rw [if_pos (by kernel_rfl), if_pos (by kernel_rfl), if_pos rfl, if_pos rfl, if_pos (by kernel_rfl), if_pos rfl, b8, Option.bind_some, if_pos rfl, if_pos rfl]
  rw [show rule_Load.f 1 1 1 = some true by kernel_rfl, Option.bind_some, if_pos rfl]
  rw [show rule_Piece.f 2 1 1 0 [0] 1 0 3 3 = some true by kernel_rfl, Option.bind_some, if_pos rfl, b10]
  kernel_rfl
end Go.Proofs.YtddepomgaeadpaaGreatDoor.PBeg
namespace Go.Proofs.YtddepomgaeadpaaGreatDoor
open Go.RowKit
theorem begun7_calls (w : World) : Calls Tryz.prog 41 #[] w fun e w' => e = .returned (.bool true) ∧ Below w.heap.size w w' := PBeg.hortatorlaw7_Begun.walk ⟨100, PBeg.begun_pure⟩ w
end Go.Proofs.YtddepomgaeadpaaGreatDoor
