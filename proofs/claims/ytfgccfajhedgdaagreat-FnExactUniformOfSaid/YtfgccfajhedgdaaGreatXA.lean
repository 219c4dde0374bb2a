/- The seat's program under the evaluator: names of its functions, the slots that its loops keep. -/
import Derived.Test.YtfgccfajhedgdaaGreatE26
import Derived.Test.YtfgccfajhedgdaaGreatProg
import Derived.Test.YtfgccfajhedgdaaGreatChecked
import Derived.KernelRfl
import Derived.Test.YtfgccfajhedgdaaGreatRB
namespace Go.Proofs.YtfgccfajhedgdaaGreat
open Go.Ev
def keepL : List (Nat × Nat × List Nat) := [(13, 8, [0, 1, 4, 6, 7, 8]), (13, 5, [0, 1, 4, 6, 7]), (14, 5, [3, 4, 6, 7]), (16, 3, [0, 3, 4]), (17, 8, [1, 4, 6, 7, 20, 21, 25, 26]), (17, 5, [1, 4, 6, 20, 21]), (18, 4, [3, 4, 6]), (20, 4, [0, 1, 5]), (22, 2, [0, 1, 5]), (24, 2, [0, 1, 5]), (27, 9, [1, 4]), (27, 4, [1, 3]), (30, 2, [2, 3, 5]), (31, 2, [2, 3, 5]), (34, 3, [2, 3, 5, 6]), (35, 2, [2, 3, 5]), (36, 3, [0, 3, 4]), (42, 2, [0, 1, 7, 8]), (45, 7, [0, 4, 7, 8, 32, 33, 34]), (46, 4, [0, 1, 5]), (47, 2, [0, 1, 5]), (48, 2, [0, 1, 5]), (49, 3, [0, 3, 4]), (50, 3, [1, 3, 4]), (51, 2, [1, 3]), (53, 2, [2, 3, 5]), (60, 5, [1, 37, 38, 39]), (61, 3, [1, 3, 7, 8, 9]), (62, 2, [1, 7, 8]), (65, 2, [0, 3, 7, 8]), (79, 3, [3, 6, 7, 8]), (91, 2, [0, 1, 7, 8]), (98, 3, [0, 4, 5, 10, 11]), (103, 3, [0, 4, 5, 10, 11]), (106, 1, [0, 2, 3]), (107, 1, [0, 2, 3])]
def modeL : List (Nat × List Bool) := [(9, [true]), (21, [true]), (22, [true]), (45, [true]), (47, [true]), (68, [true]), (69, [true]), (87, [true]), (89, [true]), (95, [true]), (97, [true]), (100, [true]), (102, [true]), (104, [true]), (105, [true]), (106, [true]), (107, [true])]
def inlL : List Nat := []
def giveL : List (Nat × List Bool) := [(88, [true]), (93, [true])]
def An : Ann := ⟨lookK keepL, lookM modeL, lookI inlL, fun f => cond (Nat.beq f 88) (some repI) ( cond (Nat.beq f 93) (some rep3) (none)), lookM giveL⟩
noncomputable def go (k f : Nat) (ds : List D) : Option (List D) := ev Tryz.prog An k f ds
noncomputable def lp (k f : Nat) (md : List D) (fu : List (Nat × Nat)) (tgt n : Nat) (s : St) : Option (List D) := loopAt Tryz.prog An k f md fu tgt n s
abbrev bit (d : D) : Bool := d.toBool
abbrev zz3 : Int × Int × Int := (0, 0, 0)
abbrev nI (n : Nat) : Int := (n : Int)
abbrev zz4 : Int × Int × Int × Int := (0, 0, 0, 0)
def main_main : Nat := 0
def gosem_cut : Nat := 1
def gosem_cut_init : Nat := 2
def laws_FnExactUniformOf : Nat := 3
def laws_szState : Nat := 4
def spec_UniformOf : Nat := 5
def laws_toState : Nat := 6
def impl_UniformOf : Nat := 7
def laws_eqState : Nat := 8
def laws_markState : Nat := 9
def laws_heldState : Nat := 10
def laws_szMesh : Nat := 11
def laws_szIntS : Nat := 12
def spec_MeshNew : Nat := 13
def spec_RemapState : Nat := 14
def laws_toMesh : Nat := 15
def laws_toIntS : Nat := 16
def impl_MeshNew : Nat := 17
def impl_RemapState : Nat := 18
def laws_eqMesh : Nat := 19
def laws_eqIntS : Nat := 20
def laws_markMesh : Nat := 21
def laws_markIntS : Nat := 22
def laws_heldMesh : Nat := 23
def laws_heldIntS : Nat := 24
def laws_szIdS : Nat := 25
def spec_l01In : Nat := 26
def spec_StateOk : Nat := 27
def spec_IsBalanced : Nat := 28
def spec_l07Copy : Nat := 29
def spec_l17Strange : Nat := 30
def spec_l17Within : Nat := 31
def spec_l08Split : Nat := 32
def spec_l08Merge : Nat := 33
def spec_l17Deepest : Nat := 34
def spec_l17Outer : Nat := 35
def laws_toIdS : Nat := 36
def impl_within : Nat := 37
def impl_isLevel : Nat := 38
def impl_StateOk : Nat := 39
def impl_IsBalanced : Nat := 40
def impl_copyState : Nat := 41
def slices_IndexFunc_impl_Id_impl_Id : Nat := 42
def impl_RemapState_1 : Nat := 43
def impl_LeafOf : Nat := 44
def impl_State_remap : Nat := 45
def laws_eqIdS : Nat := 46
def laws_markIdS : Nat := 47
def laws_heldIdS : Nat := 48
def spec_l07Sum : Nat := 49
def spec_MeshOk : Nat := 50
def spec_l05First : Nat := 51
def spec_l04Copy : Nat := 52
def spec_LeafOf : Nat := 53
def spec_Contains : Nat := 54
def spec_SplitEven : Nat := 55
def spec_ShareOut : Nat := 56
def spec_l05Split : Nat := 57
def spec_l06Merge : Nat := 58
def laws_toId : Nat := 59
def impl_State_hasCells : Nat := 60
def impl_MeshOk : Nat := 61
def impl_Mesh_unbalanced : Nat := 62
def impl_copyMesh : Nat := 63
def slices_Clone_int_int : Nat := 64
def slices_Index_impl_Id_impl_Id : Nat := 65
def impl_State_remap_1 : Nat := 66
def impl_Contains : Nat := 67
def impl_State_refine : Nat := 68
def impl_State_coarsen : Nat := 69
def laws_eqId : Nat := 70
def spec_IdOk : Nat := 71
def spec_StartOf : Nat := 72
def spec_l04End : Nat := 73
def spec_ChildOf : Nat := 74
def spec_ParentOf : Nat := 75
def slices_ContainsFunc_int_int : Nat := 76
def impl_State_hasCells_1 : Nat := 77
def impl_isBed : Nat := 78
def impl_sum : Nat := 79
def impl_IdOk : Nat := 80
def impl_StartOf : Nat := 81
def impl_endOf : Nat := 82
def impl_absolute : Nat := 83
def slices_Clone_impl_Id_impl_Id : Nat := 84
def impl_SplitEven : Nat := 85
def impl_ShareOut : Nat := 86
def impl_Mesh_refine : Nat := 87
def slices_Replace_int_int : Nat := 88
def impl_Mesh_coarsen : Nat := 89
def spec_WidthOf : Nat := 90
def slices_IndexFunc_int_int : Nat := 91
def impl_WidthOf : Nat := 92
def slices_Replace_impl_Id_impl_Id : Nat := 93
def impl_child : Nat := 94
def slices_Insert_int_int : Nat := 95
def slices_overlaps_int : Nat := 96
def slices_rotateRight_int : Nat := 97
def slices_startIdx_int : Nat := 98
def impl_ParentOf : Nat := 99
def slices_Insert_impl_Id_impl_Id : Nat := 100
def slices_overlaps_impl_Id : Nat := 101
def slices_rotateRight_impl_Id : Nat := 102
def slices_startIdx_impl_Id : Nat := 103
def slices_rotateLeft_int : Nat := 104
def slices_rotateLeft_impl_Id : Nat := 105
def slices_Reverse_int_int : Nat := 106
def slices_Reverse_impl_Id_impl_Id : Nat := 107
def runtime_boundsError_Error : Nat := 108
def runtime_boundsError_RuntimeError : Nat := 109
def runtime_errorString_Error : Nat := 110
def runtime_errorString_RuntimeError : Nat := 111
def runtime_plainError_Error : Nat := 112
def runtime_plainError_RuntimeError : Nat := 113
def runtime_errorAddressString_Error : Nat := 114
def runtime_errorAddressString_RuntimeError : Nat := 115
def runtime_TypeAssertionError_Error : Nat := 116
def runtime_TypeAssertionError_RuntimeError : Nat := 117
def runtime_PanicNilError_Error : Nat := 118
def runtime_PanicNilError_RuntimeError : Nat := 119
def internal_abi_Type_Align : Nat := 120
def internal_runtime_maps_unhashableTypeError_Error : Nat := 121
def internal_runtime_maps_unhashableTypeError_RuntimeError : Nat := 122
def impl_Mesh_toRefine : Nat := 123
def impl_State_balance : Nat := 124
def internal_abi_Kind_String : Nat := 125
theorem ownKnob0 : ownKnob Tryz.prog.godebug = none := by kernel_rfl
theorem laidOut0 : laidOutB Tryz.prog = true := by kernel_rfl
theorem namesB : (Tryz.prog.funcs.toList.all fun fn => !(fn.name == "runtime.NumGoroutine")) = true := by kernel_rfl
theorem good : Go.Ev.Good Tryz.prog := by
  refine ⟨fun f fn h => ?_, by kernel_rfl⟩
  have := List.all_eq_true.1 namesB fn (by simpa using Array.mem_of_getElem? h)
  simpa using this
theorem cond_bool (c x y : Bool) : cond c (some [D.bool x]) (some [D.bool y]) = some [D.bool (cond c x y)] := by cases c <;> rfl
end Go.Proofs.YtfgccfajhedgdaaGreat
