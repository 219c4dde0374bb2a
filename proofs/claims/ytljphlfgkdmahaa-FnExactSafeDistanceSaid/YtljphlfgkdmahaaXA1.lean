/- The seat's program under the evaluator: names of its functions, the slots that its loops keep. -/
import Derived.Test.YtljphlfgkdmahaaE26
import Derived.Test.YtljphlfgkdmahaaProg
import Derived.Test.YtljphlfgkdmahaaChecked
import Derived.KernelRfl
namespace Go.Proofs.Ytljphlfgkdmahaa
open Go.Ev
def keepL : List (Nat × Nat × List Nat) := [(9, 12, [3, 5, 6, 7, 8, 9, 10, 11]), (10, 15, [5, 6, 7, 8, 11, 12, 13]), (15, 2, [0, 1, 5]), (16, 3, [0, 3, 4]), (17, 2, [1, 7, 8, 9]), (18, 4, [0, 1, 5]), (19, 3, [0, 1, 5, 6]), (20, 3, [1, 5, 8, 9, 10]), (21, 3, [0, 4, 5]), (22, 3, [0, 4, 7, 8, 9]), (23, 5, [0, 1, 5, 6]), (24, 5, [1, 5, 18, 19, 20]), (35, 4, [3, 4, 5]), (36, 3, [7, 13, 14, 15]), (37, 6, [2, 4, 9, 10]), (41, 4, [3, 4, 41, 42, 43]), (42, 4, [7, 8, 9]), (43, 9, [1, 2, 5, 6, 7, 8]), (43, 5, [1, 2, 5, 6]), (44, 9, [1, 2, 5, 6, 7, 8, 23, 24]), (44, 5, [1, 2, 5, 23, 24]), (46, 2, [0, 1, 5]), (47, 2, [0, 1, 5]), (48, 10, [2, 4, 9, 10, 11, 12]), (48, 6, [2, 4, 9, 10]), (49, 4, [0, 1, 5]), (50, 2, [0, 1, 5]), (51, 2, [0, 1, 5]), (62, 3, [1, 3, 4]), (63, 3, [0, 3, 4]), (64, 3, [1, 3, 7, 8, 9]), (65, 4, [0, 1, 5]), (67, 3, [0, 3, 4]), (70, 4, [7, 8, 14, 15, 16]), (71, 9, [0, 2, 3, 4, 6, 7]), (71, 4, [0, 2, 3, 4, 5]), (73, 9, [1, 4]), (73, 4, [1, 3]), (74, 11, [2, 4, 5, 6, 8]), (74, 4, [1, 2, 4, 5, 6, 7]), (77, 4, [0, 1, 12, 13]), (78, 4, [1, 5]), (82, 2, [0, 1, 5]), (84, 3, [0, 3, 4]), (85, 5, [0, 3, 4]), (86, 3, [3, 6, 7, 8]), (95, 5, [2, 3, 4]), (96, 3, [0, 2, 3, 4]), (107, 5, [1, 37, 38, 39]), (108, 4, [0, 1, 12, 13]), (109, 2, [0, 3]), (113, 2, [1, 3]), (116, 4, [0, 2, 3, 5, 8]), (120, 2, [1, 7, 8]), (128, 2, [0, 1, 7, 8])]
def An : Ann := ⟨lookK keepL, fun _ => [], fun _ => false, fun _ => none⟩
noncomputable def go (k f : Nat) (ds : List D) : Option (List D) := ev Try.prog An k f ds
noncomputable def lp (k f : Nat) (md : List D) (fu : List (Nat × Nat)) (tgt n : Nat) (s : St) : Option (List D) := loopAt Try.prog An k f md fu tgt n s
abbrev bit (d : D) : Bool := d.toBool
abbrev zz3 : Int × Int × Int := (0, 0, 0)
abbrev nI (n : Nat) : Int := (n : Int)
abbrev zz4 : Int × Int × Int × Int := (0, 0, 0, 0)
def laws_FnExactArrivalOf : Nat := 3
def laws_FnExactTicksAbove : Nat := 4
def laws_FnExactPeakOf : Nat := 5
def laws_FnExactSpreadOf : Nat := 6
def laws_FnExactActOk : Nat := 7
def laws_FnExactSafeDistance : Nat := 8
def laws_FnCones : Nat := 9
def laws_FnInfluence : Nat := 10
def laws_FnExactConeWidth : Nat := 11
def laws_FnExactWorkShare : Nat := 12
def laws_FnExactReached : Nat := 13
def laws_FnExactEfficiency : Nat := 14
def spec_ArrivalOf : Nat := 15
def laws_toIntS : Nat := 16
def impl_ArrivalOf : Nat := 17
def laws_eqIntS : Nat := 18
def spec_TicksAbove : Nat := 19
def impl_TicksAbove : Nat := 20
def spec_PeakOf : Nat := 21
def impl_PeakOf : Nat := 22
def spec_SpreadOf : Nat := 23
def impl_SpreadOf : Nat := 24
def spec_ActOk : Nat := 25
def laws_toAct : Nat := 26
def impl_ActOk : Nat := 27
def laws_szMesh : Nat := 28
def spec_SafeDistance : Nat := 29
def laws_toMesh : Nat := 30
def impl_SafeDistance : Nat := 31
def laws_eqMesh : Nat := 32
def laws_big : Nat := 33
def spec_DrawBalanced : Nat := 34
def spec_DrawPlaces : Nat := 35
def impl_ConeWidth : Nat := 36
def impl_Reached : Nat := 37
def spec_DrawState : Nat := 38
def spec_PutCell : Nat := 39
def spec_StepState : Nat := 40
def impl_Agree : Nat := 41
def spec_ConeWidth : Nat := 42
def spec_WorkShare : Nat := 43
def impl_WorkShare : Nat := 44
def laws_markMesh : Nat := 45
def laws_markIntS : Nat := 46
def laws_heldIntS : Nat := 47
def spec_Reached : Nat := 48
def laws_eqBoolS : Nat := 49
def laws_markBoolS : Nat := 50
def laws_heldBoolS : Nat := 51
def spec_Efficiency : Nat := 52
def impl_Efficiency : Nat := 53
def spec_l37Plain : Nat := 54
def spec_l01In : Nat := 55
def spec_BorderOk : Nat := 56
def impl_within : Nat := 57
def impl_isRain : Nat := 58
def impl_BorderOk : Nat := 59
def impl_isRate : Nat := 60
def laws_szIdS : Nat := 61
def spec_MeshOk : Nat := 62
def laws_toIdS : Nat := 63
def impl_MeshOk : Nat := 64
def laws_eqIdS : Nat := 65
def spec_l05Mesh : Nat := 66
def spec_l01New : Nat := 67
def spec_l01Below : Nat := 68
def impl_Mesh_has : Nat := 69
def impl_Mesh_widen : Nat := 70
def spec_l07State : Nat := 71
def spec_l07Copy : Nat := 72
def spec_StateOk : Nat := 73
def spec_l11Step : Nat := 74
def impl_StateOk : Nat := 75
def impl_SameMesh : Nat := 76
def slices_Equal_int_int : Nat := 77
def spec_CutsOk : Nat := 78
def spec_l05Face : Nat := 79
def impl_CutsOk : Nat := 80
def impl_Mesh_faceLevel : Nat := 81
def laws_markIdS : Nat := 82
def spec_IsActive : Nat := 83
def spec_l07Sum : Nat := 84
def slices_Max_int_int : Nat := 85
def impl_sum : Nat := 86
def spec_IdOk : Nat := 87
def spec_StartOf : Nat := 88
def spec_l04End : Nat := 89
def laws_toId : Nat := 90
def impl_IdOk : Nat := 91
def impl_StartOf : Nat := 92
def impl_endOf : Nat := 93
def laws_eqId : Nat := 94
def spec_Balance : Nat := 95
def spec_l04Mesh : Nat := 96
def spec_l01Byte : Nat := 97
def slices_Clone_bool_bool : Nat := 98
def impl_Mesh_widen_1 : Nat := 99
def impl_IsActive : Nat := 100
def spec_l01Once : Nat := 101
def spec_l04Copy : Nat := 102
def spec_IsBalanced : Nat := 103
def spec_l09Flux : Nat := 104
def spec_LeafOut : Nat := 105
def impl_IsBalanced : Nat := 106
def impl_State_hasCells : Nat := 107
def slices_Equal_impl_Id_impl_Id : Nat := 108
def slices_IsSorted_int_int : Nat := 109
def spec_WidthOf : Nat := 110
def impl_isLevel : Nat := 111
def impl_WidthOf : Nat := 112
def spec_l05First : Nat := 113
def spec_l05Split : Nat := 114
def spec_l05Coarser : Nat := 115
def spec_l04Root : Nat := 116
def spec_l09Pair : Nat := 117
def spec_l09Surface : Nat := 118
def spec_ShareOut : Nat := 119
def impl_Mesh_unbalanced : Nat := 120
def slices_ContainsFunc_int_int : Nat := 121
def impl_State_hasCells_1 : Nat := 122
def impl_isBed : Nat := 123
def cmp_Less_int : Nat := 124
def spec_ChildOf : Nat := 125
def spec_DivTrunc : Nat := 126
def impl_absolute : Nat := 127
def slices_IndexFunc_int_int : Nat := 128
def cmp_isNaN_int : Nat := 129
def impl_Mesh_toRefine : Nat := 145
theorem ownKnob0 : ownKnob Try.prog.godebug = none := by kernel_rfl
theorem laidOut0 : laidOutB Try.prog = true := by kernel_rfl
theorem namesB : (Try.prog.funcs.toList.all fun fn => !(fn.name == "runtime.NumGoroutine")) = true := by kernel_rfl
theorem good : Go.Ev.Good Try.prog := by
  refine ⟨fun f fn h => ?_, by kernel_rfl⟩
  have := List.all_eq_true.1 namesB fn (by simpa using Array.mem_of_getElem? h)
  simpa using this
theorem noExt : ∀ f g, An.ext f = some g → ∀ ds rs, g ds = some rs → Contract Try.prog f (An.mode f) ds rs := fun f g h => by cases h
theorem cond_bool (c x y : Bool) : cond c (some [D.bool x]) (some [D.bool y]) = some [D.bool (cond c x y)] := by cases c <;> rfl
end Go.Proofs.Ytljphlfgkdmahaa
