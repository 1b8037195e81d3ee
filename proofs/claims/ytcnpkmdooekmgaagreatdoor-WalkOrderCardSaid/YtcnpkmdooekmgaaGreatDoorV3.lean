/-
  Part 3 of what a proof of this claim uses: rules, contracts and plain laws. No condition.
-/
import Derived.Test.YtcnpkmdooekmgaaGreatDoorV2
import Derived.Test.YtcnpkmdooekmgaaGreatDoorProg
import Derived.KernelRfl
import Derived.Lib.TrailingZeros
set_option maxRecDepth 20000
namespace Go.Proofs.YtcnpkmdooekmgaaGreatDoor
open Go Go.Proofs.YtcnpkmdooekmgaaGreatDoor.Sl
abbrev F.casematelaw16_WalkOrder : Nat := 8
abbrev F.casematelaw15_Begin : Nat := 16
abbrev F.mtree_New : Nat := 17
abbrev F.mtree_Tree_Root : Nat := 19
abbrev F.casematelaw15_All : Nat := 20
abbrev F.mtree_Tree_Clone : Nat := 24
abbrev F.mtree_Tree_Put : Nat := 25
abbrev F.casematelaw15_Val : Nat := 26
abbrev F.mtree_Tree_Del : Nat := 27
abbrev F.mtree_Tree_Become : Nat := 28
abbrev F.mtree_Tree_Free : Nat := 29
abbrev F.shadow_Store_Used : Nat := 30
abbrev F.shadow_New : Nat := 34
abbrev F.hashlog_New : Nat := 35
abbrev F.mtree_Tree_Get : Nat := 37
abbrev F.mtree_Tree_Range : Nat := 38
abbrev F.casematelaw16_Do : Nat := 40
abbrev F.walk_Look : Nat := 41
abbrev F.casematelaw16_alive : Nat := 42
abbrev F.walk_PutAll : Nat := 43
abbrev F.walk_DelRange : Nat := 44
abbrev F.walk_Count : Nat := 59
abbrev F.casemateref16_Some : Nat := 62
abbrev F.walk_Move : Nat := 63
abbrev F.disk_New : Nat := 64
abbrev F.casemateref15_Put : Nat := 65
abbrev F.casematelaw15_As : Nat := 68
abbrev F.casemateref15_Range : Nat := 69
abbrev F.mtree_Tree_made : Nat := 70
abbrev F.shadow_Store_Hold : Nat := 71
abbrev F.mtree_change_put : Nat := 72
abbrev F.mtree_change_grow : Nat := 73
abbrev F.mtree_Tree_settle : Nat := 74
abbrev F.mtree_change_del : Nat := 75
abbrev F.shadow_Store_Drop : Nat := 76
abbrev F.shadow_Store_made : Nat := 77
abbrev F.disk_Disk_Size : Nat := 78
abbrev F.bits_New : Nat := 79
abbrev F.shadow_Store_Load : Nat := 81
abbrev F.node_Way : Nat := 82
abbrev F.node_Find : Nat := 83
abbrev F.mtree_Tree_walk : Nat := 84
abbrev F.casemateref16_DelRange : Nat := 85
abbrev F.casematelaw16_pairs : Nat := 86
abbrev F.casemateref16_PutAll : Nat := 87
abbrev F.casemateref16_Move : Nat := 88
abbrev F.walk_isStore : Nat := 89
abbrev F.walk_isTree : Nat := 90
abbrev F.walk_looker_look : Nat := 91
abbrev F.walk_whole : Nat := 92
abbrev F.shadow_Store_Has : Nat := 111
abbrev F.mtree_change_load : Nat := 112
abbrev F.node_Put : Nat := 113
abbrev F.mtree_change_save : Nat := 114
abbrev F.mtree_swap : Nat := 115
abbrev F.shadow_Store_Sweep : Nat := 116
abbrev F.node_Cut : Nat := 117
abbrev F.node_Join : Nat := 118
abbrev F.shadow_Store_free : Nat := 119
abbrev F.shadow_Store_holders : Nat := 121
abbrev F.shadow_Store_keep : Nat := 122
abbrev F.disk_Disk_Read : Nat := 123
abbrev F.node_Read : Nat := 124
abbrev F.hashlog_Log_Sum : Nat := 125
abbrev F.mtree_Tree_walk_c1 : Nat := 126
abbrev F.walk_looker_leaf : Nat := 128
abbrev F.walk_looker_least : Nat := 129
abbrev F.octet_Read : Nat := 130
abbrev F.octet_Reader_U8 : Nat := 131
abbrev F.octet_Reader_U32 : Nat := 132
abbrev F.octet_Reader_Bytes : Nat := 133
abbrev F.octet_Put_uint32 : Nat := 137
abbrev F.node_whole : Nat := 143
abbrev F.node_some : Nat := 144
abbrev F.slices_Insert_uint64_uint64 : Nat := 145
abbrev F.slices_Insert_44_byte_44_byte : Nat := 146
abbrev F.node_Halve : Nat := 147
abbrev F.shadow_Store_Make : Nat := 148
abbrev F.slices_Concat_uint64_uint64 : Nat := 149
abbrev F.slices_Concat_44_byte_44_byte : Nat := 150
abbrev F.slices_Concat_api_Ref_api_Ref : Nat := 151
abbrev F.bits_Row_Drop : Nat := 152
abbrev F.bits_Row_Hold : Nat := 153
abbrev F.disk_Disk_ask : Nat := 154
abbrev F.disk_Disk_there : Nat := 155
abbrev F.disk_at : Nat := 156
abbrev F.octet_Reader_U64 : Nat := 157
abbrev F.node_Write : Nat := 158
abbrev F.slices_Equal_byte_byte : Nat := 159
abbrev F.sha_Sum : Nat := 160
abbrev F.hashlog_Log_made : Nat := 161
abbrev F.hashlog_among : Nat := 162
abbrev F.slices_Clone_byte_byte : Nat := 163
abbrev F.octet_next_uint8 : Nat := 164
abbrev F.octet_next_uint32 : Nat := 165
abbrev F.octet_width_uint8 : Nat := 167
abbrev F.octet_width_uint32 : Nat := 168
abbrev F.node_part_uint64 : Nat := 181
abbrev F.node_part_44_byte : Nat := 182
abbrev F.node_part_api_Ref : Nat := 183
abbrev F.slices_overlaps_uint64 : Nat := 184
abbrev F.slices_overlaps_44_byte : Nat := 186
abbrev F.bits_Row_Free : Nat := 188
abbrev F.disk_Disk_Write : Nat := 189
abbrev F.slices_Grow_uint64_uint64 : Nat := 190
abbrev F.slices_Grow_44_byte_44_byte : Nat := 191
abbrev F.slices_Grow_api_Ref_api_Ref : Nat := 192
abbrev F.bits_Row_there : Nat := 193
abbrev F.bits_Row_Times : Nat := 194
abbrev F.octet_next_uint64 : Nat := 195
abbrev F.node_Right : Nat := 196
abbrev F.octet_Put_uint64 : Nat := 197
abbrev F.octet_Pad : Nat := 198
abbrev F.sha_Both : Nat := 199
abbrev F.slices_ContainsFunc_byte_byte : Nat := 200
abbrev F.hashlog_among_c1 : Nat := 201
abbrev F.bytes_Equal : Nat := 202
abbrev F.octet_Get_uint8 : Nat := 203
abbrev F.octet_Get_uint32 : Nat := 204
abbrev F.slices_Clone_uint64_uint64 : Nat := 211
abbrev F.slices_Clone_44_byte_44_byte : Nat := 212
abbrev F.slices_Clone_api_Ref_api_Ref : Nat := 213
abbrev F.bits_Row_Size : Nat := 216
abbrev F.math_bits_TrailingZeros64 : Nat := 217
abbrev F.disk_Disk_change : Nat := 218
abbrev F.octet_Get_uint64 : Nat := 219
abbrev F.octet_width_uint64 : Nat := 220
abbrev F.node_rise : Nat := 221
abbrev F.sha_New : Nat := 222
abbrev F.sha_Hash_Write : Nat := 223
abbrev F.sha_Hash_Sum : Nat := 224
abbrev F.slices_IndexFunc_byte_byte : Nat := 225
abbrev F.sha_start : Nat := 229
abbrev F.sha_Hash_take : Nat := 230
abbrev F.sha_turn : Nat := 231
abbrev F.sha_numbers : Nat := 232
abbrev F.math_bits_RotateLeft32 : Nat := 233
abbrev T.int : Nat := 3
abbrev T.bool : Nat := 4
abbrev T.uint8 : Nat := 5
abbrev T.string : Nat := 9
abbrev T.p_mtree_Tree : Nat := 27
abbrev T.uint64 : Nat := 32
abbrev T.casematelaw15_Op : Nat := 34
abbrev T.uint32 : Nat := 35
abbrev T.api_Sum : Nat := 37
abbrev T.api_Ref : Nat := 39
abbrev T.api_Errno : Nat := 49
abbrev T.a44_uint8 : Nat := 51
abbrev T.sl_uint8 : Nat := 61
abbrev T.mtree_Tree : Nat := 71
abbrev T.sl_mtree_Pair : Nat := 75
abbrev T.casematelaw16_Op : Nat := 83
abbrev T.walk_Shape : Nat := 85
abbrev T.mtree_Pair : Nat := 90
abbrev T.shadow_Store : Nat := 146
abbrev T.casemateref15_Pair : Nat := 158
abbrev T.mtree_change : Nat := 162
abbrev T.sl_uint64 : Nat := 163
abbrev T.sl_a44_uint8 : Nat := 164
abbrev T.sl_api_Ref : Nat := 165
abbrev T.node_Node : Nat := 167
abbrev T.disk_Disk : Nat := 176
abbrev T.disk_write : Nat := 178
abbrev T.hashlog_Log : Nat := 183
abbrev T.p_api_Errno : Nat := 192
abbrev T.walk_looker : Nat := 200
abbrev T.shadow_info : Nat := 234
abbrev T.bits_Row : Nat := 246
abbrev T.func_256 : Nat := 256
abbrev T.octet_Reader : Nat := 300
abbrev T.a8_uint32 : Nat := 361
abbrev T.sha_Hash : Nat := 364
abbrev T.a64_uint32 : Nat := 365
instance : TBody Go.Proofs.Tryz.prog 8 Go.Proofs.Tryz.f8 150 := ⟨Go.Proofs.Tryz.func8, rfl⟩
instance : TFn Go.Proofs.Tryz.prog 16 := ⟨Go.Proofs.Tryz.call16⟩
instance : TBody Go.Proofs.Tryz.prog 16 Go.Proofs.Tryz.f16 32 := ⟨Go.Proofs.Tryz.func16, rfl⟩
instance : TFn Go.Proofs.Tryz.prog 17 := ⟨Go.Proofs.Tryz.call17⟩
instance : TBody Go.Proofs.Tryz.prog 17 Go.Proofs.Tryz.f17 6 := ⟨Go.Proofs.Tryz.func17, rfl⟩
instance : TFn Go.Proofs.Tryz.prog 19 := ⟨Go.Proofs.Tryz.call19⟩
instance : TBody Go.Proofs.Tryz.prog 19 Go.Proofs.Tryz.f19 16 := ⟨Go.Proofs.Tryz.func19, rfl⟩
instance : TFn Go.Proofs.Tryz.prog 20 := ⟨Go.Proofs.Tryz.call20⟩
instance : TBody Go.Proofs.Tryz.prog 20 Go.Proofs.Tryz.f20 15 := ⟨Go.Proofs.Tryz.func20, rfl⟩
instance : TFn Go.Proofs.Tryz.prog 24 := ⟨Go.Proofs.Tryz.call24⟩
instance : TBody Go.Proofs.Tryz.prog 24 Go.Proofs.Tryz.f24 23 := ⟨Go.Proofs.Tryz.func24, rfl⟩
instance : TFn Go.Proofs.Tryz.prog 25 := ⟨Go.Proofs.Tryz.call25⟩
instance : TBody Go.Proofs.Tryz.prog 25 Go.Proofs.Tryz.f25 49 := ⟨Go.Proofs.Tryz.func25, rfl⟩
instance : TFn Go.Proofs.Tryz.prog 26 := ⟨Go.Proofs.Tryz.call26⟩
instance : TBody Go.Proofs.Tryz.prog 26 Go.Proofs.Tryz.f26 10 := ⟨Go.Proofs.Tryz.func26, rfl⟩
instance : TFn Go.Proofs.Tryz.prog 27 := ⟨Go.Proofs.Tryz.call27⟩
instance : TBody Go.Proofs.Tryz.prog 27 Go.Proofs.Tryz.f27 46 := ⟨Go.Proofs.Tryz.func27, rfl⟩
instance : TFn Go.Proofs.Tryz.prog 28 := ⟨Go.Proofs.Tryz.call28⟩
instance : TBody Go.Proofs.Tryz.prog 28 Go.Proofs.Tryz.f28 64 := ⟨Go.Proofs.Tryz.func28, rfl⟩
instance : TFn Go.Proofs.Tryz.prog 29 := ⟨Go.Proofs.Tryz.call29⟩
instance : TBody Go.Proofs.Tryz.prog 29 Go.Proofs.Tryz.f29 22 := ⟨Go.Proofs.Tryz.func29, rfl⟩
instance : TFn Go.Proofs.Tryz.prog 30 := ⟨Go.Proofs.Tryz.call30⟩
instance : TBody Go.Proofs.Tryz.prog 30 Go.Proofs.Tryz.f30 11 := ⟨Go.Proofs.Tryz.func30, rfl⟩
instance : TFn Go.Proofs.Tryz.prog 34 := ⟨Go.Proofs.Tryz.call34⟩
instance : TBody Go.Proofs.Tryz.prog 34 Go.Proofs.Tryz.f34 50 := ⟨Go.Proofs.Tryz.func34, rfl⟩
instance : TFn Go.Proofs.Tryz.prog 35 := ⟨Go.Proofs.Tryz.call35⟩
instance : TBody Go.Proofs.Tryz.prog 35 Go.Proofs.Tryz.f35 4 := ⟨Go.Proofs.Tryz.func35, rfl⟩
instance : TFn Go.Proofs.Tryz.prog 37 := ⟨Go.Proofs.Tryz.call37⟩
instance : TBody Go.Proofs.Tryz.prog 37 Go.Proofs.Tryz.f37 65 := ⟨Go.Proofs.Tryz.func37, rfl⟩
instance : TFn Go.Proofs.Tryz.prog 38 := ⟨Go.Proofs.Tryz.call38⟩
instance : TBody Go.Proofs.Tryz.prog 38 Go.Proofs.Tryz.f38 54 := ⟨Go.Proofs.Tryz.func38, rfl⟩
instance : TFn Go.Proofs.Tryz.prog 40 := ⟨Go.Proofs.Tryz.call40⟩
instance : TBody Go.Proofs.Tryz.prog 40 Go.Proofs.Tryz.f40 131 := ⟨Go.Proofs.Tryz.func40, rfl⟩
instance : TFn Go.Proofs.Tryz.prog 41 := ⟨Go.Proofs.Tryz.call41⟩
instance : TBody Go.Proofs.Tryz.prog 41 Go.Proofs.Tryz.f41 44 := ⟨Go.Proofs.Tryz.func41, rfl⟩
instance : TFn Go.Proofs.Tryz.prog 42 := ⟨Go.Proofs.Tryz.call42⟩
instance : TBody Go.Proofs.Tryz.prog 42 Go.Proofs.Tryz.f42 82 := ⟨Go.Proofs.Tryz.func42, rfl⟩
instance : TFn Go.Proofs.Tryz.prog 43 := ⟨Go.Proofs.Tryz.call43⟩
instance : TBody Go.Proofs.Tryz.prog 43 Go.Proofs.Tryz.f43 8 := ⟨Go.Proofs.Tryz.func43, rfl⟩
instance : TFn Go.Proofs.Tryz.prog 44 := ⟨Go.Proofs.Tryz.call44⟩
instance : TBody Go.Proofs.Tryz.prog 44 Go.Proofs.Tryz.f44 28 := ⟨Go.Proofs.Tryz.func44, rfl⟩
instance : TFn Go.Proofs.Tryz.prog 59 := ⟨Go.Proofs.Tryz.call59⟩
instance : TBody Go.Proofs.Tryz.prog 59 Go.Proofs.Tryz.f59 20 := ⟨Go.Proofs.Tryz.func59, rfl⟩
instance : TFn Go.Proofs.Tryz.prog 62 := ⟨Go.Proofs.Tryz.call62⟩
instance : TBody Go.Proofs.Tryz.prog 62 Go.Proofs.Tryz.f62 13 := ⟨Go.Proofs.Tryz.func62, rfl⟩
instance : TFn Go.Proofs.Tryz.prog 63 := ⟨Go.Proofs.Tryz.call63⟩
instance : TBody Go.Proofs.Tryz.prog 63 Go.Proofs.Tryz.f63 54 := ⟨Go.Proofs.Tryz.func63, rfl⟩
instance : TFn Go.Proofs.Tryz.prog 64 := ⟨Go.Proofs.Tryz.call64⟩
instance : TBody Go.Proofs.Tryz.prog 64 Go.Proofs.Tryz.f64 15 := ⟨Go.Proofs.Tryz.func64, rfl⟩
instance : TFn Go.Proofs.Tryz.prog 65 := ⟨Go.Proofs.Tryz.call65⟩
instance : TBody Go.Proofs.Tryz.prog 65 Go.Proofs.Tryz.f65 56 := ⟨Go.Proofs.Tryz.func65, rfl⟩
instance : TFn Go.Proofs.Tryz.prog 68 := ⟨Go.Proofs.Tryz.call68⟩
instance : TBody Go.Proofs.Tryz.prog 68 Go.Proofs.Tryz.f68 28 := ⟨Go.Proofs.Tryz.func68, rfl⟩
instance : TFn Go.Proofs.Tryz.prog 69 := ⟨Go.Proofs.Tryz.call69⟩
instance : TBody Go.Proofs.Tryz.prog 69 Go.Proofs.Tryz.f69 47 := ⟨Go.Proofs.Tryz.func69, rfl⟩
instance : TFn Go.Proofs.Tryz.prog 70 := ⟨Go.Proofs.Tryz.call70⟩
instance : TBody Go.Proofs.Tryz.prog 70 Go.Proofs.Tryz.f70 12 := ⟨Go.Proofs.Tryz.func70, rfl⟩
instance : TFn Go.Proofs.Tryz.prog 71 := ⟨Go.Proofs.Tryz.call71⟩
instance : TBody Go.Proofs.Tryz.prog 71 Go.Proofs.Tryz.f71 28 := ⟨Go.Proofs.Tryz.func71, rfl⟩
instance : TFn Go.Proofs.Tryz.prog 72 := ⟨Go.Proofs.Tryz.call72⟩
instance : TBody Go.Proofs.Tryz.prog 72 Go.Proofs.Tryz.f72 58 := ⟨Go.Proofs.Tryz.func72, rfl⟩
instance : TFn Go.Proofs.Tryz.prog 73 := ⟨Go.Proofs.Tryz.call73⟩
instance : TBody Go.Proofs.Tryz.prog 73 Go.Proofs.Tryz.f73 53 := ⟨Go.Proofs.Tryz.func73, rfl⟩
instance : TFn Go.Proofs.Tryz.prog 74 := ⟨Go.Proofs.Tryz.call74⟩
instance : TBody Go.Proofs.Tryz.prog 74 Go.Proofs.Tryz.f74 51 := ⟨Go.Proofs.Tryz.func74, rfl⟩
instance : TFn Go.Proofs.Tryz.prog 75 := ⟨Go.Proofs.Tryz.call75⟩
instance : TBody Go.Proofs.Tryz.prog 75 Go.Proofs.Tryz.f75 114 := ⟨Go.Proofs.Tryz.func75, rfl⟩
instance : TFn Go.Proofs.Tryz.prog 76 := ⟨Go.Proofs.Tryz.call76⟩
instance : TBody Go.Proofs.Tryz.prog 76 Go.Proofs.Tryz.f76 46 := ⟨Go.Proofs.Tryz.func76, rfl⟩
instance : TFn Go.Proofs.Tryz.prog 77 := ⟨Go.Proofs.Tryz.call77⟩
instance : TBody Go.Proofs.Tryz.prog 77 Go.Proofs.Tryz.f77 12 := ⟨Go.Proofs.Tryz.func77, rfl⟩
instance : TFn Go.Proofs.Tryz.prog 78 := ⟨Go.Proofs.Tryz.call78⟩
instance : TBody Go.Proofs.Tryz.prog 78 Go.Proofs.Tryz.f78 9 := ⟨Go.Proofs.Tryz.func78, rfl⟩
instance : TFn Go.Proofs.Tryz.prog 79 := ⟨Go.Proofs.Tryz.call79⟩
instance : TBody Go.Proofs.Tryz.prog 79 Go.Proofs.Tryz.f79 19 := ⟨Go.Proofs.Tryz.func79, rfl⟩
instance : TFn Go.Proofs.Tryz.prog 81 := ⟨Go.Proofs.Tryz.call81⟩
instance : TBody Go.Proofs.Tryz.prog 81 Go.Proofs.Tryz.f81 67 := ⟨Go.Proofs.Tryz.func81, rfl⟩
instance : TFn Go.Proofs.Tryz.prog 82 := ⟨Go.Proofs.Tryz.call82⟩
instance : TBody Go.Proofs.Tryz.prog 82 Go.Proofs.Tryz.f82 19 := ⟨Go.Proofs.Tryz.func82, rfl⟩
instance : TFn Go.Proofs.Tryz.prog 83 := ⟨Go.Proofs.Tryz.call83⟩
instance : TBody Go.Proofs.Tryz.prog 83 Go.Proofs.Tryz.f83 53 := ⟨Go.Proofs.Tryz.func83, rfl⟩
instance : TFn Go.Proofs.Tryz.prog 84 := ⟨Go.Proofs.Tryz.call84⟩
instance : TBody Go.Proofs.Tryz.prog 84 Go.Proofs.Tryz.f84 10 := ⟨Go.Proofs.Tryz.func84, rfl⟩
instance : TFn Go.Proofs.Tryz.prog 85 := ⟨Go.Proofs.Tryz.call85⟩
instance : TBody Go.Proofs.Tryz.prog 85 Go.Proofs.Tryz.f85 39 := ⟨Go.Proofs.Tryz.func85, rfl⟩
instance : TFn Go.Proofs.Tryz.prog 86 := ⟨Go.Proofs.Tryz.call86⟩
instance : TBody Go.Proofs.Tryz.prog 86 Go.Proofs.Tryz.f86 33 := ⟨Go.Proofs.Tryz.func86, rfl⟩
instance : TFn Go.Proofs.Tryz.prog 87 := ⟨Go.Proofs.Tryz.call87⟩
instance : TBody Go.Proofs.Tryz.prog 87 Go.Proofs.Tryz.f87 25 := ⟨Go.Proofs.Tryz.func87, rfl⟩
instance : TFn Go.Proofs.Tryz.prog 88 := ⟨Go.Proofs.Tryz.call88⟩
instance : TBody Go.Proofs.Tryz.prog 88 Go.Proofs.Tryz.f88 38 := ⟨Go.Proofs.Tryz.func88, rfl⟩
instance : TFn Go.Proofs.Tryz.prog 89 := ⟨Go.Proofs.Tryz.call89⟩
instance : TBody Go.Proofs.Tryz.prog 89 Go.Proofs.Tryz.f89 7 := ⟨Go.Proofs.Tryz.func89, rfl⟩
instance : TFn Go.Proofs.Tryz.prog 90 := ⟨Go.Proofs.Tryz.call90⟩
instance : TBody Go.Proofs.Tryz.prog 90 Go.Proofs.Tryz.f90 14 := ⟨Go.Proofs.Tryz.func90, rfl⟩
instance : TFn Go.Proofs.Tryz.prog 91 := ⟨Go.Proofs.Tryz.call91⟩
instance : TBody Go.Proofs.Tryz.prog 91 Go.Proofs.Tryz.f91 108 := ⟨Go.Proofs.Tryz.func91, rfl⟩
instance : TFn Go.Proofs.Tryz.prog 92 := ⟨Go.Proofs.Tryz.call92⟩
instance : TBody Go.Proofs.Tryz.prog 92 Go.Proofs.Tryz.f92 23 := ⟨Go.Proofs.Tryz.func92, rfl⟩
instance : TFn Go.Proofs.Tryz.prog 93 := ⟨Go.Proofs.Tryz.call93⟩
instance : TBody Go.Proofs.Tryz.prog 93 Go.Proofs.Tryz.f93 23 := ⟨Go.Proofs.Tryz.func93, rfl⟩
instance : TFn Go.Proofs.Tryz.prog 94 := ⟨Go.Proofs.Tryz.call94⟩
instance : TBody Go.Proofs.Tryz.prog 94 Go.Proofs.Tryz.f94 25 := ⟨Go.Proofs.Tryz.func94, rfl⟩
instance : TFn Go.Proofs.Tryz.prog 111 := ⟨Go.Proofs.Tryz.call111⟩
instance : TBody Go.Proofs.Tryz.prog 111 Go.Proofs.Tryz.f111 16 := ⟨Go.Proofs.Tryz.func111, rfl⟩
instance : TFn Go.Proofs.Tryz.prog 112 := ⟨Go.Proofs.Tryz.call112⟩
instance : TBody Go.Proofs.Tryz.prog 112 Go.Proofs.Tryz.f112 27 := ⟨Go.Proofs.Tryz.func112, rfl⟩
instance : TFn Go.Proofs.Tryz.prog 113 := ⟨Go.Proofs.Tryz.call113⟩
instance : TBody Go.Proofs.Tryz.prog 113 Go.Proofs.Tryz.f113 52 := ⟨Go.Proofs.Tryz.func113, rfl⟩
instance : TFn Go.Proofs.Tryz.prog 114 := ⟨Go.Proofs.Tryz.call114⟩
instance : TBody Go.Proofs.Tryz.prog 114 Go.Proofs.Tryz.f114 77 := ⟨Go.Proofs.Tryz.func114, rfl⟩
instance : TFn Go.Proofs.Tryz.prog 115 := ⟨Go.Proofs.Tryz.call115⟩
instance : TBody Go.Proofs.Tryz.prog 115 Go.Proofs.Tryz.f115 42 := ⟨Go.Proofs.Tryz.func115, rfl⟩
instance : TFn Go.Proofs.Tryz.prog 116 := ⟨Go.Proofs.Tryz.call116⟩
instance : TBody Go.Proofs.Tryz.prog 116 Go.Proofs.Tryz.f116 44 := ⟨Go.Proofs.Tryz.func116, rfl⟩
instance : TFn Go.Proofs.Tryz.prog 117 := ⟨Go.Proofs.Tryz.call117⟩
instance : TBody Go.Proofs.Tryz.prog 117 Go.Proofs.Tryz.f117 32 := ⟨Go.Proofs.Tryz.func117, rfl⟩
instance : TFn Go.Proofs.Tryz.prog 118 := ⟨Go.Proofs.Tryz.call118⟩
instance : TBody Go.Proofs.Tryz.prog 118 Go.Proofs.Tryz.f118 42 := ⟨Go.Proofs.Tryz.func118, rfl⟩
instance : TFn Go.Proofs.Tryz.prog 119 := ⟨Go.Proofs.Tryz.call119⟩
instance : TBody Go.Proofs.Tryz.prog 119 Go.Proofs.Tryz.f119 78 := ⟨Go.Proofs.Tryz.func119, rfl⟩
instance : TFn Go.Proofs.Tryz.prog 121 := ⟨Go.Proofs.Tryz.call121⟩
instance : TBody Go.Proofs.Tryz.prog 121 Go.Proofs.Tryz.f121 35 := ⟨Go.Proofs.Tryz.func121, rfl⟩
instance : TFn Go.Proofs.Tryz.prog 122 := ⟨Go.Proofs.Tryz.call122⟩
instance : TBody Go.Proofs.Tryz.prog 122 Go.Proofs.Tryz.f122 51 := ⟨Go.Proofs.Tryz.func122, rfl⟩
instance : TFn Go.Proofs.Tryz.prog 123 := ⟨Go.Proofs.Tryz.call123⟩
instance : TBody Go.Proofs.Tryz.prog 123 Go.Proofs.Tryz.f123 25 := ⟨Go.Proofs.Tryz.func123, rfl⟩
instance : TFn Go.Proofs.Tryz.prog 124 := ⟨Go.Proofs.Tryz.call124⟩
instance : TBody Go.Proofs.Tryz.prog 124 Go.Proofs.Tryz.f124 77 := ⟨Go.Proofs.Tryz.func124, rfl⟩
instance : TFn Go.Proofs.Tryz.prog 125 := ⟨Go.Proofs.Tryz.call125⟩
instance : TBody Go.Proofs.Tryz.prog 125 Go.Proofs.Tryz.f125 66 := ⟨Go.Proofs.Tryz.func125, rfl⟩
instance : TFn Go.Proofs.Tryz.prog 126 := ⟨Go.Proofs.Tryz.call126⟩
instance : TBody Go.Proofs.Tryz.prog 126 Go.Proofs.Tryz.f126 83 := ⟨Go.Proofs.Tryz.func126, rfl⟩
instance : TFn Go.Proofs.Tryz.prog 128 := ⟨Go.Proofs.Tryz.call128⟩
instance : TBody Go.Proofs.Tryz.prog 128 Go.Proofs.Tryz.f128 78 := ⟨Go.Proofs.Tryz.func128, rfl⟩
instance : TFn Go.Proofs.Tryz.prog 129 := ⟨Go.Proofs.Tryz.call129⟩
instance : TBody Go.Proofs.Tryz.prog 129 Go.Proofs.Tryz.f129 31 := ⟨Go.Proofs.Tryz.func129, rfl⟩
instance : TFn Go.Proofs.Tryz.prog 130 := ⟨Go.Proofs.Tryz.call130⟩
instance : TBody Go.Proofs.Tryz.prog 130 Go.Proofs.Tryz.f130 7 := ⟨Go.Proofs.Tryz.func130, rfl⟩
instance : TFn Go.Proofs.Tryz.prog 131 := ⟨Go.Proofs.Tryz.call131⟩
instance : TBody Go.Proofs.Tryz.prog 131 Go.Proofs.Tryz.f131 5 := ⟨Go.Proofs.Tryz.func131, rfl⟩
instance : TFn Go.Proofs.Tryz.prog 132 := ⟨Go.Proofs.Tryz.call132⟩
instance : TBody Go.Proofs.Tryz.prog 132 Go.Proofs.Tryz.f132 5 := ⟨Go.Proofs.Tryz.func132, rfl⟩
instance : TFn Go.Proofs.Tryz.prog 133 := ⟨Go.Proofs.Tryz.call133⟩
instance : TBody Go.Proofs.Tryz.prog 133 Go.Proofs.Tryz.f133 49 := ⟨Go.Proofs.Tryz.func133, rfl⟩
instance : TFn Go.Proofs.Tryz.prog 137 := ⟨Go.Proofs.Tryz.call137⟩
instance : TBody Go.Proofs.Tryz.prog 137 Go.Proofs.Tryz.f137 27 := ⟨Go.Proofs.Tryz.func137, rfl⟩
instance : TFn Go.Proofs.Tryz.prog 143 := ⟨Go.Proofs.Tryz.call143⟩
instance : TBody Go.Proofs.Tryz.prog 143 Go.Proofs.Tryz.f143 19 := ⟨Go.Proofs.Tryz.func143, rfl⟩
instance : TFn Go.Proofs.Tryz.prog 144 := ⟨Go.Proofs.Tryz.call144⟩
instance : TBody Go.Proofs.Tryz.prog 144 Go.Proofs.Tryz.f144 25 := ⟨Go.Proofs.Tryz.func144, rfl⟩
instance : TFn Go.Proofs.Tryz.prog 145 := ⟨Go.Proofs.Tryz.call145⟩
instance : TBody Go.Proofs.Tryz.prog 145 Go.Proofs.Tryz.f145 95 := ⟨Go.Proofs.Tryz.func145, rfl⟩
instance : TFn Go.Proofs.Tryz.prog 146 := ⟨Go.Proofs.Tryz.call146⟩
instance : TBody Go.Proofs.Tryz.prog 146 Go.Proofs.Tryz.f146 95 := ⟨Go.Proofs.Tryz.func146, rfl⟩
instance : TFn Go.Proofs.Tryz.prog 147 := ⟨Go.Proofs.Tryz.call147⟩
instance : TBody Go.Proofs.Tryz.prog 147 Go.Proofs.Tryz.f147 24 := ⟨Go.Proofs.Tryz.func147, rfl⟩
instance : TFn Go.Proofs.Tryz.prog 148 := ⟨Go.Proofs.Tryz.call148⟩
instance : TBody Go.Proofs.Tryz.prog 148 Go.Proofs.Tryz.f148 108 := ⟨Go.Proofs.Tryz.func148, rfl⟩
instance : TFn Go.Proofs.Tryz.prog 149 := ⟨Go.Proofs.Tryz.call149⟩
instance : TBody Go.Proofs.Tryz.prog 149 Go.Proofs.Tryz.f149 36 := ⟨Go.Proofs.Tryz.func149, rfl⟩
instance : TFn Go.Proofs.Tryz.prog 150 := ⟨Go.Proofs.Tryz.call150⟩
instance : TBody Go.Proofs.Tryz.prog 150 Go.Proofs.Tryz.f150 36 := ⟨Go.Proofs.Tryz.func150, rfl⟩
instance : TFn Go.Proofs.Tryz.prog 151 := ⟨Go.Proofs.Tryz.call151⟩
instance : TBody Go.Proofs.Tryz.prog 151 Go.Proofs.Tryz.f151 36 := ⟨Go.Proofs.Tryz.func151, rfl⟩
instance : TFn Go.Proofs.Tryz.prog 152 := ⟨Go.Proofs.Tryz.call152⟩
instance : TBody Go.Proofs.Tryz.prog 152 Go.Proofs.Tryz.f152 58 := ⟨Go.Proofs.Tryz.func152, rfl⟩
instance : TFn Go.Proofs.Tryz.prog 153 := ⟨Go.Proofs.Tryz.call153⟩
instance : TBody Go.Proofs.Tryz.prog 153 Go.Proofs.Tryz.f153 49 := ⟨Go.Proofs.Tryz.func153, rfl⟩
instance : TFn Go.Proofs.Tryz.prog 154 := ⟨Go.Proofs.Tryz.call154⟩
instance : TBody Go.Proofs.Tryz.prog 154 Go.Proofs.Tryz.f154 12 := ⟨Go.Proofs.Tryz.func154, rfl⟩
instance : TFn Go.Proofs.Tryz.prog 155 := ⟨Go.Proofs.Tryz.call155⟩
instance : TBody Go.Proofs.Tryz.prog 155 Go.Proofs.Tryz.f155 17 := ⟨Go.Proofs.Tryz.func155, rfl⟩
instance : TFn Go.Proofs.Tryz.prog 156 := ⟨Go.Proofs.Tryz.call156⟩
instance : TBody Go.Proofs.Tryz.prog 156 Go.Proofs.Tryz.f156 14 := ⟨Go.Proofs.Tryz.func156, rfl⟩
instance : TFn Go.Proofs.Tryz.prog 157 := ⟨Go.Proofs.Tryz.call157⟩
instance : TBody Go.Proofs.Tryz.prog 157 Go.Proofs.Tryz.f157 5 := ⟨Go.Proofs.Tryz.func157, rfl⟩
instance : TFn Go.Proofs.Tryz.prog 158 := ⟨Go.Proofs.Tryz.call158⟩
instance : TBody Go.Proofs.Tryz.prog 158 Go.Proofs.Tryz.f158 62 := ⟨Go.Proofs.Tryz.func158, rfl⟩
instance : TFn Go.Proofs.Tryz.prog 159 := ⟨Go.Proofs.Tryz.call159⟩
instance : TBody Go.Proofs.Tryz.prog 159 Go.Proofs.Tryz.f159 26 := ⟨Go.Proofs.Tryz.func159, rfl⟩
instance : TFn Go.Proofs.Tryz.prog 160 := ⟨Go.Proofs.Tryz.call160⟩
instance : TBody Go.Proofs.Tryz.prog 160 Go.Proofs.Tryz.f160 6 := ⟨Go.Proofs.Tryz.func160, rfl⟩
instance : TFn Go.Proofs.Tryz.prog 161 := ⟨Go.Proofs.Tryz.call161⟩
instance : TBody Go.Proofs.Tryz.prog 161 Go.Proofs.Tryz.f161 12 := ⟨Go.Proofs.Tryz.func161, rfl⟩
instance : TFn Go.Proofs.Tryz.prog 162 := ⟨Go.Proofs.Tryz.call162⟩
instance : TBody Go.Proofs.Tryz.prog 162 Go.Proofs.Tryz.f162 8 := ⟨Go.Proofs.Tryz.func162, rfl⟩
instance : TFn Go.Proofs.Tryz.prog 163 := ⟨Go.Proofs.Tryz.call163⟩
instance : TBody Go.Proofs.Tryz.prog 163 Go.Proofs.Tryz.f163 8 := ⟨Go.Proofs.Tryz.func163, rfl⟩
instance : TFn Go.Proofs.Tryz.prog 164 := ⟨Go.Proofs.Tryz.call164⟩
instance : TBody Go.Proofs.Tryz.prog 164 Go.Proofs.Tryz.f164 13 := ⟨Go.Proofs.Tryz.func164, rfl⟩
instance : TFn Go.Proofs.Tryz.prog 165 := ⟨Go.Proofs.Tryz.call165⟩
instance : TBody Go.Proofs.Tryz.prog 165 Go.Proofs.Tryz.f165 13 := ⟨Go.Proofs.Tryz.func165, rfl⟩
instance : TFn Go.Proofs.Tryz.prog 167 := ⟨Go.Proofs.Tryz.call167⟩
instance : TBody Go.Proofs.Tryz.prog 167 Go.Proofs.Tryz.f167 14 := ⟨Go.Proofs.Tryz.func167, rfl⟩
instance : TFn Go.Proofs.Tryz.prog 168 := ⟨Go.Proofs.Tryz.call168⟩
instance : TBody Go.Proofs.Tryz.prog 168 Go.Proofs.Tryz.f168 14 := ⟨Go.Proofs.Tryz.func168, rfl⟩
instance : TFn Go.Proofs.Tryz.prog 181 := ⟨Go.Proofs.Tryz.call181⟩
instance : TBody Go.Proofs.Tryz.prog 181 Go.Proofs.Tryz.f181 21 := ⟨Go.Proofs.Tryz.func181, rfl⟩
instance : TFn Go.Proofs.Tryz.prog 182 := ⟨Go.Proofs.Tryz.call182⟩
instance : TBody Go.Proofs.Tryz.prog 182 Go.Proofs.Tryz.f182 21 := ⟨Go.Proofs.Tryz.func182, rfl⟩
instance : TFn Go.Proofs.Tryz.prog 183 := ⟨Go.Proofs.Tryz.call183⟩
instance : TBody Go.Proofs.Tryz.prog 183 Go.Proofs.Tryz.f183 21 := ⟨Go.Proofs.Tryz.func183, rfl⟩
instance : TFn Go.Proofs.Tryz.prog 188 := ⟨Go.Proofs.Tryz.call188⟩
instance : TBody Go.Proofs.Tryz.prog 188 Go.Proofs.Tryz.f188 61 := ⟨Go.Proofs.Tryz.func188, rfl⟩
instance : TFn Go.Proofs.Tryz.prog 189 := ⟨Go.Proofs.Tryz.call189⟩
instance : TBody Go.Proofs.Tryz.prog 189 Go.Proofs.Tryz.f189 50 := ⟨Go.Proofs.Tryz.func189, rfl⟩
instance : TFn Go.Proofs.Tryz.prog 190 := ⟨Go.Proofs.Tryz.call190⟩
instance : TBody Go.Proofs.Tryz.prog 190 Go.Proofs.Tryz.f190 27 := ⟨Go.Proofs.Tryz.func190, rfl⟩
instance : TFn Go.Proofs.Tryz.prog 191 := ⟨Go.Proofs.Tryz.call191⟩
instance : TBody Go.Proofs.Tryz.prog 191 Go.Proofs.Tryz.f191 27 := ⟨Go.Proofs.Tryz.func191, rfl⟩
instance : TFn Go.Proofs.Tryz.prog 192 := ⟨Go.Proofs.Tryz.call192⟩
instance : TBody Go.Proofs.Tryz.prog 192 Go.Proofs.Tryz.f192 27 := ⟨Go.Proofs.Tryz.func192, rfl⟩
instance : TFn Go.Proofs.Tryz.prog 193 := ⟨Go.Proofs.Tryz.call193⟩
instance : TBody Go.Proofs.Tryz.prog 193 Go.Proofs.Tryz.f193 20 := ⟨Go.Proofs.Tryz.func193, rfl⟩
instance : TFn Go.Proofs.Tryz.prog 194 := ⟨Go.Proofs.Tryz.call194⟩
instance : TBody Go.Proofs.Tryz.prog 194 Go.Proofs.Tryz.f194 31 := ⟨Go.Proofs.Tryz.func194, rfl⟩
instance : TFn Go.Proofs.Tryz.prog 195 := ⟨Go.Proofs.Tryz.call195⟩
instance : TBody Go.Proofs.Tryz.prog 195 Go.Proofs.Tryz.f195 13 := ⟨Go.Proofs.Tryz.func195, rfl⟩
instance : TFn Go.Proofs.Tryz.prog 196 := ⟨Go.Proofs.Tryz.call196⟩
instance : TBody Go.Proofs.Tryz.prog 196 Go.Proofs.Tryz.f196 57 := ⟨Go.Proofs.Tryz.func196, rfl⟩
instance : TFn Go.Proofs.Tryz.prog 197 := ⟨Go.Proofs.Tryz.call197⟩
instance : TBody Go.Proofs.Tryz.prog 197 Go.Proofs.Tryz.f197 26 := ⟨Go.Proofs.Tryz.func197, rfl⟩
instance : TFn Go.Proofs.Tryz.prog 198 := ⟨Go.Proofs.Tryz.call198⟩
instance : TBody Go.Proofs.Tryz.prog 198 Go.Proofs.Tryz.f198 25 := ⟨Go.Proofs.Tryz.func198, rfl⟩
instance : TFn Go.Proofs.Tryz.prog 199 := ⟨Go.Proofs.Tryz.call199⟩
instance : TBody Go.Proofs.Tryz.prog 199 Go.Proofs.Tryz.f199 25 := ⟨Go.Proofs.Tryz.func199, rfl⟩
instance : TFn Go.Proofs.Tryz.prog 200 := ⟨Go.Proofs.Tryz.call200⟩
instance : TBody Go.Proofs.Tryz.prog 200 Go.Proofs.Tryz.f200 9 := ⟨Go.Proofs.Tryz.func200, rfl⟩
instance : TFn Go.Proofs.Tryz.prog 201 := ⟨Go.Proofs.Tryz.call201⟩
instance : TBody Go.Proofs.Tryz.prog 201 Go.Proofs.Tryz.f201 7 := ⟨Go.Proofs.Tryz.func201, rfl⟩
instance : TFn Go.Proofs.Tryz.prog 202 := ⟨Go.Proofs.Tryz.call202⟩
instance : TBody Go.Proofs.Tryz.prog 202 Go.Proofs.Tryz.f202 10 := ⟨Go.Proofs.Tryz.func202, rfl⟩
instance : TFn Go.Proofs.Tryz.prog 203 := ⟨Go.Proofs.Tryz.call203⟩
instance : TBody Go.Proofs.Tryz.prog 203 Go.Proofs.Tryz.f203 46 := ⟨Go.Proofs.Tryz.func203, rfl⟩
instance : TFn Go.Proofs.Tryz.prog 204 := ⟨Go.Proofs.Tryz.call204⟩
instance : TBody Go.Proofs.Tryz.prog 204 Go.Proofs.Tryz.f204 46 := ⟨Go.Proofs.Tryz.func204, rfl⟩
instance : TFn Go.Proofs.Tryz.prog 211 := ⟨Go.Proofs.Tryz.call211⟩
instance : TBody Go.Proofs.Tryz.prog 211 Go.Proofs.Tryz.f211 8 := ⟨Go.Proofs.Tryz.func211, rfl⟩
instance : TFn Go.Proofs.Tryz.prog 212 := ⟨Go.Proofs.Tryz.call212⟩
instance : TBody Go.Proofs.Tryz.prog 212 Go.Proofs.Tryz.f212 8 := ⟨Go.Proofs.Tryz.func212, rfl⟩
instance : TFn Go.Proofs.Tryz.prog 213 := ⟨Go.Proofs.Tryz.call213⟩
instance : TBody Go.Proofs.Tryz.prog 213 Go.Proofs.Tryz.f213 8 := ⟨Go.Proofs.Tryz.func213, rfl⟩
instance : TFn Go.Proofs.Tryz.prog 216 := ⟨Go.Proofs.Tryz.call216⟩
instance : TBody Go.Proofs.Tryz.prog 216 Go.Proofs.Tryz.f216 9 := ⟨Go.Proofs.Tryz.func216, rfl⟩
instance : TFn Go.Proofs.Tryz.prog 217 := ⟨Go.Proofs.Tryz.call217⟩
instance : TBody Go.Proofs.Tryz.prog 217 Go.Proofs.Tryz.f217 14 := ⟨Go.Proofs.Tryz.func217, rfl⟩
instance : TFn Go.Proofs.Tryz.prog 218 := ⟨Go.Proofs.Tryz.call218⟩
instance : TBody Go.Proofs.Tryz.prog 218 Go.Proofs.Tryz.f218 35 := ⟨Go.Proofs.Tryz.func218, rfl⟩
instance : TFn Go.Proofs.Tryz.prog 219 := ⟨Go.Proofs.Tryz.call219⟩
instance : TBody Go.Proofs.Tryz.prog 219 Go.Proofs.Tryz.f219 45 := ⟨Go.Proofs.Tryz.func219, rfl⟩
instance : TFn Go.Proofs.Tryz.prog 220 := ⟨Go.Proofs.Tryz.call220⟩
instance : TBody Go.Proofs.Tryz.prog 220 Go.Proofs.Tryz.f220 12 := ⟨Go.Proofs.Tryz.func220, rfl⟩
instance : TFn Go.Proofs.Tryz.prog 221 := ⟨Go.Proofs.Tryz.call221⟩
instance : TBody Go.Proofs.Tryz.prog 221 Go.Proofs.Tryz.f221 20 := ⟨Go.Proofs.Tryz.func221, rfl⟩
instance : TFn Go.Proofs.Tryz.prog 222 := ⟨Go.Proofs.Tryz.call222⟩
instance : TBody Go.Proofs.Tryz.prog 222 Go.Proofs.Tryz.f222 4 := ⟨Go.Proofs.Tryz.func222, rfl⟩
instance : TFn Go.Proofs.Tryz.prog 223 := ⟨Go.Proofs.Tryz.call223⟩
instance : TBody Go.Proofs.Tryz.prog 223 Go.Proofs.Tryz.f223 56 := ⟨Go.Proofs.Tryz.func223, rfl⟩
instance : TFn Go.Proofs.Tryz.prog 224 := ⟨Go.Proofs.Tryz.call224⟩
instance : TBody Go.Proofs.Tryz.prog 224 Go.Proofs.Tryz.f224 49 := ⟨Go.Proofs.Tryz.func224, rfl⟩
instance : TFn Go.Proofs.Tryz.prog 225 := ⟨Go.Proofs.Tryz.call225⟩
instance : TBody Go.Proofs.Tryz.prog 225 Go.Proofs.Tryz.f225 19 := ⟨Go.Proofs.Tryz.func225, rfl⟩
instance : TFn Go.Proofs.Tryz.prog 229 := ⟨Go.Proofs.Tryz.call229⟩
instance : TBody Go.Proofs.Tryz.prog 229 Go.Proofs.Tryz.f229 2 := ⟨Go.Proofs.Tryz.func229, rfl⟩
instance : TFn Go.Proofs.Tryz.prog 230 := ⟨Go.Proofs.Tryz.call230⟩
instance : TBody Go.Proofs.Tryz.prog 230 Go.Proofs.Tryz.f230 174 := ⟨Go.Proofs.Tryz.func230, rfl⟩
instance : TFn Go.Proofs.Tryz.prog 231 := ⟨Go.Proofs.Tryz.call231⟩
instance : TBody Go.Proofs.Tryz.prog 231 Go.Proofs.Tryz.f231 9 := ⟨Go.Proofs.Tryz.func231, rfl⟩
instance : TFn Go.Proofs.Tryz.prog 232 := ⟨Go.Proofs.Tryz.call232⟩
instance : TBody Go.Proofs.Tryz.prog 232 Go.Proofs.Tryz.f232 2 := ⟨Go.Proofs.Tryz.func232, rfl⟩
instance : TFn Go.Proofs.Tryz.prog 233 := ⟨Go.Proofs.Tryz.call233⟩
instance : TBody Go.Proofs.Tryz.prog 233 Go.Proofs.Tryz.f233 17 := ⟨Go.Proofs.Tryz.func233, rfl⟩
instance : TUnd Go.Proofs.Tryz.prog 2 (.int .i64) := ⟨Go.Proofs.Tryz.underlying2, Go.Proofs.Tryz.runUnderlying2⟩
instance : TUnd Go.Proofs.Tryz.prog 3 (.int .i64) := ⟨Go.Proofs.Tryz.underlying3, Go.Proofs.Tryz.runUnderlying3⟩
instance : TAgg Go.Proofs.Tryz.prog 3 false := ⟨Go.Proofs.Tryz.isAgg3⟩
instance : TSize Go.Proofs.Tryz.prog 3 1 := ⟨Go.Proofs.Tryz.sizeOf3⟩
instance : TZero Go.Proofs.Tryz.prog 3 (Value.int .i64 0) := ⟨Go.Proofs.Tryz.zeroValue3⟩
instance : TUnd Go.Proofs.Tryz.prog 4 (.bool) := ⟨Go.Proofs.Tryz.underlying4, Go.Proofs.Tryz.runUnderlying4⟩
instance : TAgg Go.Proofs.Tryz.prog 4 false := ⟨Go.Proofs.Tryz.isAgg4⟩
instance : TSize Go.Proofs.Tryz.prog 4 1 := ⟨Go.Proofs.Tryz.sizeOf4⟩
instance : TUnd Go.Proofs.Tryz.prog 5 (.int .u8) := ⟨Go.Proofs.Tryz.underlying5, Go.Proofs.Tryz.runUnderlying5⟩
instance : TAgg Go.Proofs.Tryz.prog 5 false := ⟨Go.Proofs.Tryz.isAgg5⟩
instance : TSize Go.Proofs.Tryz.prog 5 1 := ⟨Go.Proofs.Tryz.sizeOf5⟩
instance : TElem Go.Proofs.Tryz.prog 5 1 1 (Value.int .u8 0) := ⟨Go.Proofs.Tryz.t5, by kernel_rfl, rfl, rfl, rfl⟩
instance : TUnd Go.Proofs.Tryz.prog 9 (.string) := ⟨Go.Proofs.Tryz.underlying9, Go.Proofs.Tryz.runUnderlying9⟩
instance : TUnd Go.Proofs.Tryz.prog 22 (.slice 34) := ⟨Go.Proofs.Tryz.underlying22, Go.Proofs.Tryz.runUnderlying22⟩
instance : TUnd Go.Proofs.Tryz.prog 23 (.pointer 176) := ⟨Go.Proofs.Tryz.underlying23, Go.Proofs.Tryz.runUnderlying23⟩
instance : TAgg Go.Proofs.Tryz.prog 23 false := ⟨Go.Proofs.Tryz.isAgg23⟩
instance : TUnd Go.Proofs.Tryz.prog 24 (.pointer 146) := ⟨Go.Proofs.Tryz.underlying24, Go.Proofs.Tryz.runUnderlying24⟩
instance : TAgg Go.Proofs.Tryz.prog 24 false := ⟨Go.Proofs.Tryz.isAgg24⟩
instance : TUnd Go.Proofs.Tryz.prog 27 (.pointer 71) := ⟨Go.Proofs.Tryz.underlying27, Go.Proofs.Tryz.runUnderlying27⟩
instance : TAgg Go.Proofs.Tryz.prog 27 false := ⟨Go.Proofs.Tryz.isAgg27⟩
instance : TUnd Go.Proofs.Tryz.prog 29 (.slice 158) := ⟨Go.Proofs.Tryz.underlying29, Go.Proofs.Tryz.runUnderlying29⟩
instance : TUnd Go.Proofs.Tryz.prog 32 (.int .u64) := ⟨Go.Proofs.Tryz.underlying32, Go.Proofs.Tryz.runUnderlying32⟩
instance : TAgg Go.Proofs.Tryz.prog 32 false := ⟨Go.Proofs.Tryz.isAgg32⟩
instance : TSize Go.Proofs.Tryz.prog 32 1 := ⟨Go.Proofs.Tryz.sizeOf32⟩
instance : TElem Go.Proofs.Tryz.prog 32 1 8 (Value.int .u64 0) := ⟨Go.Proofs.Tryz.t32, by kernel_rfl, rfl, rfl, rfl⟩
instance : TSize Go.Proofs.Tryz.prog 34 5 := ⟨Go.Proofs.Tryz.sizeOf34⟩
instance : TUnd Go.Proofs.Tryz.prog 35 (.int .u32) := ⟨Go.Proofs.Tryz.underlying35, Go.Proofs.Tryz.runUnderlying35⟩
instance : TAgg Go.Proofs.Tryz.prog 35 false := ⟨Go.Proofs.Tryz.isAgg35⟩
instance : TSize Go.Proofs.Tryz.prog 35 1 := ⟨Go.Proofs.Tryz.sizeOf35⟩
instance : TElem Go.Proofs.Tryz.prog 35 1 4 (Value.int .u32 0) := ⟨Go.Proofs.Tryz.t35, by kernel_rfl, rfl, rfl, rfl⟩
instance : TUnd Go.Proofs.Tryz.prog 37 (.array 32 5) := ⟨Go.Proofs.Tryz.underlying37, Go.Proofs.Tryz.runUnderlying37⟩
instance : TAgg Go.Proofs.Tryz.prog 37 true := ⟨Go.Proofs.Tryz.isAgg37⟩
instance : TSize Go.Proofs.Tryz.prog 37 32 := ⟨Go.Proofs.Tryz.sizeOf37⟩
instance : TZero Go.Proofs.Tryz.prog 37 (Value.agg (List.replicate 32 (Value.int .u8 0)).toArray) := ⟨Go.Proofs.Tryz.zeroValue37⟩
instance : TAgg Go.Proofs.Tryz.prog 39 true := ⟨Go.Proofs.Tryz.isAgg39⟩
instance : TSize Go.Proofs.Tryz.prog 39 33 := ⟨Go.Proofs.Tryz.sizeOf39⟩
instance : TZero Go.Proofs.Tryz.prog 39 (Value.agg ([Value.int .u32 0] ++ List.replicate 32 (Value.int .u8 0)).toArray) := ⟨Go.Proofs.Tryz.zeroValue39⟩
instance : TElem Go.Proofs.Tryz.prog 39 33 36 (Value.agg ([Value.int .u32 0] ++ List.replicate 32 (Value.int .u8 0)).toArray) := ⟨Go.Proofs.Tryz.t39, by kernel_rfl, rfl, rfl, rfl⟩
instance : TAgg Go.Proofs.Tryz.prog 49 false := ⟨Go.Proofs.Tryz.isAgg49⟩
instance : TSize Go.Proofs.Tryz.prog 49 1 := ⟨Go.Proofs.Tryz.sizeOf49⟩
instance : TZero Go.Proofs.Tryz.prog 49 (Value.int .i64 0) := ⟨Go.Proofs.Tryz.zeroValue49⟩
instance : TUnd Go.Proofs.Tryz.prog 51 (.array 44 5) := ⟨Go.Proofs.Tryz.underlying51, Go.Proofs.Tryz.runUnderlying51⟩
instance : TAgg Go.Proofs.Tryz.prog 51 true := ⟨Go.Proofs.Tryz.isAgg51⟩
instance : TSize Go.Proofs.Tryz.prog 51 44 := ⟨Go.Proofs.Tryz.sizeOf51⟩
instance : TZero Go.Proofs.Tryz.prog 51 (Value.agg (List.replicate 44 (Value.int .u8 0)).toArray) := ⟨Go.Proofs.Tryz.zeroValue51⟩
instance : TElem Go.Proofs.Tryz.prog 51 44 44 (Value.agg (List.replicate 44 (Value.int .u8 0)).toArray) := ⟨Go.Proofs.Tryz.t51, by kernel_rfl, rfl, rfl, rfl⟩
instance : TUnd Go.Proofs.Tryz.prog 61 (.slice 5) := ⟨Go.Proofs.Tryz.underlying61, Go.Proofs.Tryz.runUnderlying61⟩
instance : TAgg Go.Proofs.Tryz.prog 61 false := ⟨Go.Proofs.Tryz.isAgg61⟩
instance : TSize Go.Proofs.Tryz.prog 61 1 := ⟨Go.Proofs.Tryz.sizeOf61⟩
instance : TZero Go.Proofs.Tryz.prog 61 (Value.slice none 0 0) := ⟨Go.Proofs.Tryz.zeroValue61⟩
instance : TElem Go.Proofs.Tryz.prog 61 1 24 (Value.slice none 0 0) := ⟨Go.Proofs.Tryz.t61, by kernel_rfl, rfl, rfl, rfl⟩
instance : TUnd Go.Proofs.Tryz.prog 65 (.pointer 183) := ⟨Go.Proofs.Tryz.underlying65, Go.Proofs.Tryz.runUnderlying65⟩
instance : TAgg Go.Proofs.Tryz.prog 65 false := ⟨Go.Proofs.Tryz.isAgg65⟩
instance : TAgg Go.Proofs.Tryz.prog 71 true := ⟨Go.Proofs.Tryz.isAgg71⟩
instance : TSize Go.Proofs.Tryz.prog 71 35 := ⟨Go.Proofs.Tryz.sizeOf71⟩
instance : TZero Go.Proofs.Tryz.prog 71 (Value.agg ([Value.pointer none, Value.int .u32 0] ++ List.replicate 32 (Value.int .u8 0) ++ [Value.bool false]).toArray) := ⟨Go.Proofs.Tryz.zeroValue71⟩
instance : TUnd Go.Proofs.Tryz.prog 75 (.slice 90) := ⟨Go.Proofs.Tryz.underlying75, Go.Proofs.Tryz.runUnderlying75⟩
instance : TAgg Go.Proofs.Tryz.prog 75 false := ⟨Go.Proofs.Tryz.isAgg75⟩
instance : TSize Go.Proofs.Tryz.prog 75 1 := ⟨Go.Proofs.Tryz.sizeOf75⟩
instance : TZero Go.Proofs.Tryz.prog 75 (Value.slice none 0 0) := ⟨Go.Proofs.Tryz.zeroValue75⟩
instance : TUnd Go.Proofs.Tryz.prog 80 (.slice 83) := ⟨Go.Proofs.Tryz.underlying80, Go.Proofs.Tryz.runUnderlying80⟩
instance : TAgg Go.Proofs.Tryz.prog 83 true := ⟨Go.Proofs.Tryz.isAgg83⟩
instance : TSize Go.Proofs.Tryz.prog 83 5 := ⟨Go.Proofs.Tryz.sizeOf83⟩
instance : TAgg Go.Proofs.Tryz.prog 85 true := ⟨Go.Proofs.Tryz.isAgg85⟩
instance : TSize Go.Proofs.Tryz.prog 85 4 := ⟨Go.Proofs.Tryz.sizeOf85⟩
instance : TZero Go.Proofs.Tryz.prog 85 (Value.agg #[Value.int .i64 0, Value.int .i64 0, Value.int .i64 0, Value.int .i64 0]) := ⟨Go.Proofs.Tryz.zeroValue85⟩
instance : TAgg Go.Proofs.Tryz.prog 90 true := ⟨Go.Proofs.Tryz.isAgg90⟩
instance : TSize Go.Proofs.Tryz.prog 90 45 := ⟨Go.Proofs.Tryz.sizeOf90⟩
instance : TZero Go.Proofs.Tryz.prog 90 (Value.agg ([Value.int .u64 0] ++ List.replicate 44 (Value.int .u8 0)).toArray) := ⟨Go.Proofs.Tryz.zeroValue90⟩
instance : TElem Go.Proofs.Tryz.prog 90 45 56 (Value.agg ([Value.int .u64 0] ++ List.replicate 44 (Value.int .u8 0)).toArray) := ⟨Go.Proofs.Tryz.t90, by kernel_rfl, rfl, rfl, rfl⟩
instance : TUnd Go.Proofs.Tryz.prog 143 (.pointer 246) := ⟨Go.Proofs.Tryz.underlying143, Go.Proofs.Tryz.runUnderlying143⟩
instance : TAgg Go.Proofs.Tryz.prog 143 false := ⟨Go.Proofs.Tryz.isAgg143⟩
instance : TUnd Go.Proofs.Tryz.prog 144 (.map 35 235) := ⟨Go.Proofs.Tryz.underlying144, Go.Proofs.Tryz.runUnderlying144⟩
instance : TAgg Go.Proofs.Tryz.prog 144 false := ⟨Go.Proofs.Tryz.isAgg144⟩
instance : TSize Go.Proofs.Tryz.prog 146 6 := ⟨Go.Proofs.Tryz.sizeOf146⟩
instance : TAgg Go.Proofs.Tryz.prog 158 true := ⟨Go.Proofs.Tryz.isAgg158⟩
instance : TSize Go.Proofs.Tryz.prog 158 2 := ⟨Go.Proofs.Tryz.sizeOf158⟩
instance : TElem Go.Proofs.Tryz.prog 158 2 32 (Value.agg #[Value.int .u64 0, Value.slice none 0 0]) := ⟨Go.Proofs.Tryz.t158, by kernel_rfl, rfl, rfl, rfl⟩
instance : TUnd Go.Proofs.Tryz.prog 163 (.slice 32) := ⟨Go.Proofs.Tryz.underlying163, Go.Proofs.Tryz.runUnderlying163⟩
instance : TAgg Go.Proofs.Tryz.prog 163 false := ⟨Go.Proofs.Tryz.isAgg163⟩
instance : TSize Go.Proofs.Tryz.prog 163 1 := ⟨Go.Proofs.Tryz.sizeOf163⟩
instance : TElem Go.Proofs.Tryz.prog 163 1 24 (Value.slice none 0 0) := ⟨Go.Proofs.Tryz.t163, by kernel_rfl, rfl, rfl, rfl⟩
instance : TUnd Go.Proofs.Tryz.prog 164 (.slice 51) := ⟨Go.Proofs.Tryz.underlying164, Go.Proofs.Tryz.runUnderlying164⟩
instance : TAgg Go.Proofs.Tryz.prog 164 false := ⟨Go.Proofs.Tryz.isAgg164⟩
instance : TSize Go.Proofs.Tryz.prog 164 1 := ⟨Go.Proofs.Tryz.sizeOf164⟩
instance : TElem Go.Proofs.Tryz.prog 164 1 24 (Value.slice none 0 0) := ⟨Go.Proofs.Tryz.t164, by kernel_rfl, rfl, rfl, rfl⟩
instance : TUnd Go.Proofs.Tryz.prog 165 (.slice 39) := ⟨Go.Proofs.Tryz.underlying165, Go.Proofs.Tryz.runUnderlying165⟩
instance : TAgg Go.Proofs.Tryz.prog 165 false := ⟨Go.Proofs.Tryz.isAgg165⟩
instance : TSize Go.Proofs.Tryz.prog 165 1 := ⟨Go.Proofs.Tryz.sizeOf165⟩
instance : TElem Go.Proofs.Tryz.prog 165 1 24 (Value.slice none 0 0) := ⟨Go.Proofs.Tryz.t165, by kernel_rfl, rfl, rfl, rfl⟩
instance : TAgg Go.Proofs.Tryz.prog 167 true := ⟨Go.Proofs.Tryz.isAgg167⟩
instance : TSize Go.Proofs.Tryz.prog 167 4 := ⟨Go.Proofs.Tryz.sizeOf167⟩
instance : TZero Go.Proofs.Tryz.prog 167 (Value.agg #[Value.bool false, Value.slice none 0 0, Value.slice none 0 0, Value.slice none 0 0]) := ⟨Go.Proofs.Tryz.zeroValue167⟩
instance : TElem Go.Proofs.Tryz.prog 167 4 80 (Value.agg #[Value.bool false, Value.slice none 0 0, Value.slice none 0 0, Value.slice none 0 0]) := ⟨Go.Proofs.Tryz.t167, by kernel_rfl, rfl, rfl, rfl⟩
instance : TUnd Go.Proofs.Tryz.prog 172 (.map 35 61) := ⟨Go.Proofs.Tryz.underlying172, Go.Proofs.Tryz.runUnderlying172⟩
instance : TAgg Go.Proofs.Tryz.prog 172 false := ⟨Go.Proofs.Tryz.isAgg172⟩
instance : TUnd Go.Proofs.Tryz.prog 173 (.slice 178) := ⟨Go.Proofs.Tryz.underlying173, Go.Proofs.Tryz.runUnderlying173⟩
instance : TAgg Go.Proofs.Tryz.prog 173 false := ⟨Go.Proofs.Tryz.isAgg173⟩
instance : TSize Go.Proofs.Tryz.prog 173 1 := ⟨Go.Proofs.Tryz.sizeOf173⟩
instance : TUnd Go.Proofs.Tryz.prog 174 (.array 64 5) := ⟨Go.Proofs.Tryz.underlying174, Go.Proofs.Tryz.runUnderlying174⟩
instance : TElem Go.Proofs.Tryz.prog 178 2 32 (Value.agg #[Value.int .u32 0, Value.slice none 0 0]) := ⟨Go.Proofs.Tryz.t178, by kernel_rfl, rfl, rfl, rfl⟩
instance : TUnd Go.Proofs.Tryz.prog 181 (.map 37 296) := ⟨Go.Proofs.Tryz.underlying181, Go.Proofs.Tryz.runUnderlying181⟩
instance : TAgg Go.Proofs.Tryz.prog 181 false := ⟨Go.Proofs.Tryz.isAgg181⟩
instance : TAgg Go.Proofs.Tryz.prog 192 false := ⟨Go.Proofs.Tryz.isAgg192⟩
instance : TUnd Go.Proofs.Tryz.prog 232 (.slice 35) := ⟨Go.Proofs.Tryz.underlying232, Go.Proofs.Tryz.runUnderlying232⟩
instance : TAgg Go.Proofs.Tryz.prog 232 false := ⟨Go.Proofs.Tryz.isAgg232⟩
instance : TSize Go.Proofs.Tryz.prog 232 1 := ⟨Go.Proofs.Tryz.sizeOf232⟩
instance : TUnd Go.Proofs.Tryz.prog 235 (.pointer 234) := ⟨Go.Proofs.Tryz.underlying235, Go.Proofs.Tryz.runUnderlying235⟩
instance : TZero Go.Proofs.Tryz.prog 235 (Value.pointer none) := ⟨Go.Proofs.Tryz.zeroValue235⟩
instance : TUnd Go.Proofs.Tryz.prog 244 (.map 3 3) := ⟨Go.Proofs.Tryz.underlying244, Go.Proofs.Tryz.runUnderlying244⟩
instance : TAgg Go.Proofs.Tryz.prog 244 false := ⟨Go.Proofs.Tryz.isAgg244⟩
instance : TUnd Go.Proofs.Tryz.prog 260 (.pointer 300) := ⟨Go.Proofs.Tryz.underlying260, Go.Proofs.Tryz.runUnderlying260⟩
instance : TUnd Go.Proofs.Tryz.prog 275 (.int .u64) := ⟨Go.Proofs.Tryz.underlying275, Go.Proofs.Tryz.runUnderlying275⟩
instance : TUnd Go.Proofs.Tryz.prog 281 (.slice 167) := ⟨Go.Proofs.Tryz.underlying281, Go.Proofs.Tryz.runUnderlying281⟩
instance : TUnd Go.Proofs.Tryz.prog 296 (.slice 61) := ⟨Go.Proofs.Tryz.underlying296, Go.Proofs.Tryz.runUnderlying296⟩
instance : TZero Go.Proofs.Tryz.prog 296 (Value.slice none 0 0) := ⟨Go.Proofs.Tryz.zeroValue296⟩
instance : TUnd Go.Proofs.Tryz.prog 322 (.slice 163) := ⟨Go.Proofs.Tryz.underlying322, Go.Proofs.Tryz.runUnderlying322⟩
instance : TUnd Go.Proofs.Tryz.prog 324 (.slice 164) := ⟨Go.Proofs.Tryz.underlying324, Go.Proofs.Tryz.runUnderlying324⟩
instance : TUnd Go.Proofs.Tryz.prog 326 (.slice 165) := ⟨Go.Proofs.Tryz.underlying326, Go.Proofs.Tryz.runUnderlying326⟩
instance : TUnd Go.Proofs.Tryz.prog 351 (.pointer 364) := ⟨Go.Proofs.Tryz.underlying351, Go.Proofs.Tryz.runUnderlying351⟩
instance : TUnd Go.Proofs.Tryz.prog 361 (.array 8 35) := ⟨Go.Proofs.Tryz.underlying361, Go.Proofs.Tryz.runUnderlying361⟩
instance : TAgg Go.Proofs.Tryz.prog 361 true := ⟨Go.Proofs.Tryz.isAgg361⟩
instance : TSize Go.Proofs.Tryz.prog 361 8 := ⟨Go.Proofs.Tryz.sizeOf361⟩
instance : TZero Go.Proofs.Tryz.prog 361 (Value.agg #[Value.int .u32 0, Value.int .u32 0, Value.int .u32 0, Value.int .u32 0, Value.int .u32 0, Value.int .u32 0, Value.int .u32 0, Value.int .u32 0]) := ⟨Go.Proofs.Tryz.zeroValue361⟩
instance : TAgg Go.Proofs.Tryz.prog 364 true := ⟨Go.Proofs.Tryz.isAgg364⟩
instance : TSize Go.Proofs.Tryz.prog 364 75 := ⟨Go.Proofs.Tryz.sizeOf364⟩
instance : TZero Go.Proofs.Tryz.prog 364 (Value.agg ([Value.bool false, Value.int .u32 0, Value.int .u32 0, Value.int .u32 0, Value.int .u32 0, Value.int .u32 0, Value.int .u32 0, Value.int .u32 0, Value.int .u32 0] ++ List.replicate 64 (Value.int .u8 0) ++ [Value.int .i64 0, Value.int .u64 0]).toArray) := ⟨fun w => by kernel_rfl⟩
instance : TUnd Go.Proofs.Tryz.prog 365 (.array 64 35) := ⟨Go.Proofs.Tryz.underlying365, Go.Proofs.Tryz.runUnderlying365⟩
instance : TAgg Go.Proofs.Tryz.prog 365 true := ⟨Go.Proofs.Tryz.isAgg365⟩
instance : TSize Go.Proofs.Tryz.prog 365 64 := ⟨Go.Proofs.Tryz.sizeOf365⟩
instance : TZero Go.Proofs.Tryz.prog 365 (Value.agg (List.replicate 64 (Value.int .u32 0)).toArray) := ⟨Go.Proofs.Tryz.zeroValue365⟩
instance : TFld Go.Proofs.Tryz.prog 34 0 0 := ⟨fld_mk (Go.Proofs.Tryz.runUnderlying34) rfl (Go.Proofs.Tryz.sizeOf3) rfl⟩
instance : TFld Go.Proofs.Tryz.prog 34 1 1 := ⟨fld_mk (Go.Proofs.Tryz.runUnderlying34) rfl (Go.Proofs.Tryz.sizeOf32) rfl⟩
instance : TFld Go.Proofs.Tryz.prog 34 3 3 := ⟨fld_mk (Go.Proofs.Tryz.runUnderlying34) rfl (Go.Proofs.Tryz.sizeOf5) rfl⟩
instance : TFld Go.Proofs.Tryz.prog 39 0 0 := ⟨fld_mk (Go.Proofs.Tryz.runUnderlying39) rfl (Go.Proofs.Tryz.sizeOf35) rfl⟩
instance : TFld Go.Proofs.Tryz.prog 39 1 1 := ⟨fld_mk (Go.Proofs.Tryz.runUnderlying39) rfl (Go.Proofs.Tryz.sizeOf37) rfl⟩
instance : TFld Go.Proofs.Tryz.prog 71 0 0 := ⟨fld_mk (Go.Proofs.Tryz.runUnderlying71) rfl (Go.Proofs.Tryz.sizeOf24) rfl⟩
instance : TFld Go.Proofs.Tryz.prog 71 1 1 := ⟨fld_mk (Go.Proofs.Tryz.runUnderlying71) rfl (Go.Proofs.Tryz.sizeOf39) rfl⟩
instance : TFld Go.Proofs.Tryz.prog 71 2 34 := ⟨fld_mk (Go.Proofs.Tryz.runUnderlying71) rfl (Go.Proofs.Tryz.sizeOf4) rfl⟩
instance : TFld Go.Proofs.Tryz.prog 83 0 0 := ⟨fld_mk (Go.Proofs.Tryz.runUnderlying83) rfl (Go.Proofs.Tryz.sizeOf3) rfl⟩
instance : TFld Go.Proofs.Tryz.prog 83 1 1 := ⟨fld_mk (Go.Proofs.Tryz.runUnderlying83) rfl (Go.Proofs.Tryz.sizeOf32) rfl⟩
instance : TFld Go.Proofs.Tryz.prog 83 2 2 := ⟨fld_mk (Go.Proofs.Tryz.runUnderlying83) rfl (Go.Proofs.Tryz.sizeOf32) rfl⟩
instance : TFld Go.Proofs.Tryz.prog 83 3 3 := ⟨fld_mk (Go.Proofs.Tryz.runUnderlying83) rfl (Go.Proofs.Tryz.sizeOf3) rfl⟩
instance : TFld Go.Proofs.Tryz.prog 83 4 4 := ⟨fld_mk (Go.Proofs.Tryz.runUnderlying83) rfl (Go.Proofs.Tryz.sizeOf5) rfl⟩
instance : TFld Go.Proofs.Tryz.prog 85 0 0 := ⟨fld_mk (Go.Proofs.Tryz.runUnderlying85) rfl (Go.Proofs.Tryz.sizeOf3) rfl⟩
instance : TFld Go.Proofs.Tryz.prog 85 1 1 := ⟨fld_mk (Go.Proofs.Tryz.runUnderlying85) rfl (Go.Proofs.Tryz.sizeOf3) rfl⟩
instance : TFld Go.Proofs.Tryz.prog 85 2 2 := ⟨fld_mk (Go.Proofs.Tryz.runUnderlying85) rfl (Go.Proofs.Tryz.sizeOf3) rfl⟩
instance : TFld Go.Proofs.Tryz.prog 85 3 3 := ⟨fld_mk (Go.Proofs.Tryz.runUnderlying85) rfl (Go.Proofs.Tryz.sizeOf3) rfl⟩
instance : TFld Go.Proofs.Tryz.prog 90 0 0 := ⟨fld_mk (Go.Proofs.Tryz.runUnderlying90) rfl (Go.Proofs.Tryz.sizeOf32) rfl⟩
instance : TFld Go.Proofs.Tryz.prog 90 1 1 := ⟨fld_mk (Go.Proofs.Tryz.runUnderlying90) rfl (Go.Proofs.Tryz.sizeOf51) rfl⟩
instance : TFld Go.Proofs.Tryz.prog 146 0 0 := ⟨fld_mk (Go.Proofs.Tryz.runUnderlying146) rfl (Go.Proofs.Tryz.sizeOf23) rfl⟩
instance : TFld Go.Proofs.Tryz.prog 146 1 1 := ⟨fld_mk (Go.Proofs.Tryz.runUnderlying146) rfl (Go.Proofs.Tryz.sizeOf3) rfl⟩
instance : TFld Go.Proofs.Tryz.prog 146 2 2 := ⟨fld_mk (Go.Proofs.Tryz.runUnderlying146) rfl (Go.Proofs.Tryz.sizeOf3) rfl⟩
instance : TFld Go.Proofs.Tryz.prog 146 3 3 := ⟨fld_mk (Go.Proofs.Tryz.runUnderlying146) rfl (Go.Proofs.Tryz.sizeOf65) rfl⟩
instance : TFld Go.Proofs.Tryz.prog 146 4 4 := ⟨fld_mk (Go.Proofs.Tryz.runUnderlying146) rfl (Go.Proofs.Tryz.sizeOf143) rfl⟩
instance : TFld Go.Proofs.Tryz.prog 146 5 5 := ⟨fld_mk (Go.Proofs.Tryz.runUnderlying146) rfl (Go.Proofs.Tryz.sizeOf144) rfl⟩
instance : TFld Go.Proofs.Tryz.prog 158 0 0 := ⟨fld_mk (Go.Proofs.Tryz.runUnderlying158) rfl (Go.Proofs.Tryz.sizeOf32) rfl⟩
instance : TFld Go.Proofs.Tryz.prog 158 1 1 := ⟨fld_mk (Go.Proofs.Tryz.runUnderlying158) rfl (Go.Proofs.Tryz.sizeOf61) rfl⟩
instance : TFld Go.Proofs.Tryz.prog 162 0 0 := ⟨fld_mk (Go.Proofs.Tryz.runUnderlying162) rfl (Go.Proofs.Tryz.sizeOf24) rfl⟩
instance : TFld Go.Proofs.Tryz.prog 162 1 1 := ⟨fld_mk (Go.Proofs.Tryz.runUnderlying162) rfl (Go.Proofs.Tryz.sizeOf49) rfl⟩
instance : TFld Go.Proofs.Tryz.prog 167 0 0 := ⟨fld_mk (Go.Proofs.Tryz.runUnderlying167) rfl (Go.Proofs.Tryz.sizeOf4) rfl⟩
instance : TFld Go.Proofs.Tryz.prog 167 1 1 := ⟨fld_mk (Go.Proofs.Tryz.runUnderlying167) rfl (Go.Proofs.Tryz.sizeOf163) rfl⟩
instance : TFld Go.Proofs.Tryz.prog 167 2 2 := ⟨fld_mk (Go.Proofs.Tryz.runUnderlying167) rfl (Go.Proofs.Tryz.sizeOf164) rfl⟩
instance : TFld Go.Proofs.Tryz.prog 167 3 3 := ⟨fld_mk (Go.Proofs.Tryz.runUnderlying167) rfl (Go.Proofs.Tryz.sizeOf165) rfl⟩
instance : TFld Go.Proofs.Tryz.prog 176 0 0 := ⟨fld_mk (Go.Proofs.Tryz.runUnderlying176) rfl (Go.Proofs.Tryz.sizeOf3) rfl⟩
instance : TFld Go.Proofs.Tryz.prog 176 2 2 := ⟨fld_mk (Go.Proofs.Tryz.runUnderlying176) rfl (Go.Proofs.Tryz.sizeOf172) rfl⟩
instance : TFld Go.Proofs.Tryz.prog 176 3 3 := ⟨fld_mk (Go.Proofs.Tryz.runUnderlying176) rfl (Go.Proofs.Tryz.sizeOf173) rfl⟩
instance : TFld Go.Proofs.Tryz.prog 176 5 68 := ⟨fld_mk (Go.Proofs.Tryz.runUnderlying176) rfl (Go.Proofs.Tryz.sizeOf3) rfl⟩
instance : TFld Go.Proofs.Tryz.prog 176 6 69 := ⟨fld_mk (Go.Proofs.Tryz.runUnderlying176) rfl (Go.Proofs.Tryz.sizeOf4) rfl⟩
instance : TFld Go.Proofs.Tryz.prog 176 7 70 := ⟨fld_mk (Go.Proofs.Tryz.runUnderlying176) rfl (Go.Proofs.Tryz.sizeOf3) rfl⟩
instance : TFld Go.Proofs.Tryz.prog 176 8 71 := ⟨fld_mk (Go.Proofs.Tryz.runUnderlying176) rfl (Go.Proofs.Tryz.sizeOf4) rfl⟩
instance : TFld Go.Proofs.Tryz.prog 183 0 0 := ⟨fld_mk (Go.Proofs.Tryz.runUnderlying183) rfl (Go.Proofs.Tryz.sizeOf181) rfl⟩
instance : TFld Go.Proofs.Tryz.prog 183 1 1 := ⟨fld_mk (Go.Proofs.Tryz.runUnderlying183) rfl (Go.Proofs.Tryz.sizeOf3) rfl⟩
instance : TFld Go.Proofs.Tryz.prog 183 2 2 := ⟨fld_mk (Go.Proofs.Tryz.runUnderlying183) rfl (Go.Proofs.Tryz.sizeOf61) rfl⟩
instance : TFld Go.Proofs.Tryz.prog 183 3 3 := ⟨fld_mk (Go.Proofs.Tryz.runUnderlying183) rfl (Go.Proofs.Tryz.sizeOf61) rfl⟩
instance : TFld Go.Proofs.Tryz.prog 183 4 4 := ⟨fld_mk (Go.Proofs.Tryz.runUnderlying183) rfl (Go.Proofs.Tryz.sizeOf4) rfl⟩
instance : TFld Go.Proofs.Tryz.prog 200 0 0 := ⟨fld_mk (Go.Proofs.Tryz.runUnderlying200) rfl (Go.Proofs.Tryz.sizeOf24) rfl⟩
instance : TFld Go.Proofs.Tryz.prog 200 1 1 := ⟨fld_mk (Go.Proofs.Tryz.runUnderlying200) rfl (Go.Proofs.Tryz.sizeOf85) rfl⟩
instance : TFld Go.Proofs.Tryz.prog 200 2 5 := ⟨fld_mk (Go.Proofs.Tryz.runUnderlying200) rfl (Go.Proofs.Tryz.sizeOf4) rfl⟩
instance : TFld Go.Proofs.Tryz.prog 200 3 6 := ⟨fld_mk (Go.Proofs.Tryz.runUnderlying200) rfl (Go.Proofs.Tryz.sizeOf32) rfl⟩
instance : TFld Go.Proofs.Tryz.prog 200 4 7 := ⟨fld_mk (Go.Proofs.Tryz.runUnderlying200) rfl (Go.Proofs.Tryz.sizeOf49) rfl⟩
instance : TFld Go.Proofs.Tryz.prog 234 0 0 := ⟨fld_mk (Go.Proofs.Tryz.runUnderlying234) rfl (Go.Proofs.Tryz.sizeOf232) rfl⟩
instance : TFld Go.Proofs.Tryz.prog 234 1 1 := ⟨fld_mk (Go.Proofs.Tryz.runUnderlying234) rfl (Go.Proofs.Tryz.sizeOf3) rfl⟩
instance : TFld Go.Proofs.Tryz.prog 246 0 0 := ⟨fld_mk (Go.Proofs.Tryz.runUnderlying246) rfl (Go.Proofs.Tryz.sizeOf3) rfl⟩
instance : TFld Go.Proofs.Tryz.prog 246 1 1 := ⟨fld_mk (Go.Proofs.Tryz.runUnderlying246) rfl (Go.Proofs.Tryz.sizeOf163) rfl⟩
instance : TFld Go.Proofs.Tryz.prog 246 2 2 := ⟨fld_mk (Go.Proofs.Tryz.runUnderlying246) rfl (Go.Proofs.Tryz.sizeOf244) rfl⟩
instance : TFld Go.Proofs.Tryz.prog 246 3 3 := ⟨fld_mk (Go.Proofs.Tryz.runUnderlying246) rfl (Go.Proofs.Tryz.sizeOf3) rfl⟩
instance : TFld Go.Proofs.Tryz.prog 300 0 0 := ⟨fld_mk (Go.Proofs.Tryz.runUnderlying300) rfl (Go.Proofs.Tryz.sizeOf61) rfl⟩
instance : TFld Go.Proofs.Tryz.prog 300 1 1 := ⟨fld_mk (Go.Proofs.Tryz.runUnderlying300) rfl (Go.Proofs.Tryz.sizeOf4) rfl⟩
instance : TFld Go.Proofs.Tryz.prog 364 0 0 := ⟨fld_mk (Go.Proofs.Tryz.runUnderlying364) rfl (Go.Proofs.Tryz.sizeOf4) rfl⟩
instance : TFld Go.Proofs.Tryz.prog 364 1 1 := ⟨fld_mk (Go.Proofs.Tryz.runUnderlying364) rfl (Go.Proofs.Tryz.sizeOf361) rfl⟩
instance : TFld Go.Proofs.Tryz.prog 364 2 9 := ⟨fld_mk (Go.Proofs.Tryz.runUnderlying364) rfl (Go.Proofs.Tryz.sizeOf174) rfl⟩
instance : TFld Go.Proofs.Tryz.prog 364 3 73 := ⟨fld_mk (Go.Proofs.Tryz.runUnderlying364) rfl (Go.Proofs.Tryz.sizeOf3) rfl⟩
instance : TFld Go.Proofs.Tryz.prog 364 4 74 := ⟨fld_mk (Go.Proofs.Tryz.runUnderlying364) rfl (Go.Proofs.Tryz.sizeOf32) rfl⟩
instance : TBuild Go.Proofs.Tryz.prog 39 [(0, 1), (1, 32)] (Value.agg ([Value.int .u32 0] ++ List.replicate 32 (Value.int .u8 0)).toArray).cells.toList := ⟨fun parts => by kernel_rfl⟩
instance : TBuild Go.Proofs.Tryz.prog 71 [(0, 1), (1, 33), (34, 1)] (Value.agg ([Value.pointer none, Value.int .u32 0] ++ List.replicate 32 (Value.int .u8 0) ++ [Value.bool false]).toArray).cells.toList := ⟨fun parts => by kernel_rfl⟩
instance : TBuild Go.Proofs.Tryz.prog 85 [(0, 1), (1, 1), (2, 1), (3, 1)] (Value.agg #[Value.int .i64 0, Value.int .i64 0, Value.int .i64 0, Value.int .i64 0]).cells.toList := ⟨fun parts => by kernel_rfl⟩
instance : TBuild Go.Proofs.Tryz.prog 90 [(0, 1), (1, 44)] (Value.agg ([Value.int .u64 0] ++ List.replicate 44 (Value.int .u8 0)).toArray).cells.toList := ⟨fun parts => by kernel_rfl⟩
instance : TBuild Go.Proofs.Tryz.prog 146 [(0, 1), (1, 1), (2, 1), (3, 1), (4, 1), (5, 1)] (Value.agg #[Value.pointer none, Value.int .i64 0, Value.int .i64 0, Value.pointer none, Value.pointer none, Value.map none]).cells.toList := ⟨fun parts => by kernel_rfl⟩
instance : TBuild Go.Proofs.Tryz.prog 158 [(0, 1), (1, 1)] (Value.agg #[Value.int .u64 0, Value.slice none 0 0]).cells.toList := ⟨fun parts => by kernel_rfl⟩
instance : TBuild Go.Proofs.Tryz.prog 162 [(0, 1), (1, 1)] (Value.agg #[Value.pointer none, Value.int .i64 0]).cells.toList := ⟨fun parts => by kernel_rfl⟩
instance : TBuild Go.Proofs.Tryz.prog 167 [(0, 1), (1, 1), (2, 1), (3, 1)] (Value.agg #[Value.bool false, Value.slice none 0 0, Value.slice none 0 0, Value.slice none 0 0]).cells.toList := ⟨fun parts => by kernel_rfl⟩
instance : TBuild Go.Proofs.Tryz.prog 176 [(0, 1), (1, 1), (2, 1), (3, 1), (4, 64), (68, 1), (69, 1), (70, 1), (71, 1)] (Value.agg ([Value.int .i64 0, Value.map none, Value.map none, Value.slice none 0 0] ++ List.replicate 64 (Value.int .u8 0) ++ [Value.int .i64 0, Value.bool false, Value.int .i64 0, Value.bool false]).toArray).cells.toList := ⟨fun parts => by kernel_rfl⟩
instance : TBuild Go.Proofs.Tryz.prog 178 [(0, 1), (1, 1)] (Value.agg #[Value.int .u32 0, Value.slice none 0 0]).cells.toList := ⟨fun parts => by kernel_rfl⟩
instance : TBuild Go.Proofs.Tryz.prog 183 [(0, 1), (1, 1), (2, 1), (3, 1), (4, 1)] (Value.agg #[Value.map none, Value.int .i64 0, Value.slice none 0 0, Value.slice none 0 0, Value.bool false]).cells.toList := ⟨fun parts => by kernel_rfl⟩
instance : TBuild Go.Proofs.Tryz.prog 200 [(0, 1), (1, 4), (5, 1), (6, 1), (7, 1)] (Value.agg #[Value.pointer none, Value.int .i64 0, Value.int .i64 0, Value.int .i64 0, Value.int .i64 0, Value.bool false, Value.int .u64 0, Value.int .i64 0]).cells.toList := ⟨fun parts => by kernel_rfl⟩
instance : TBuild Go.Proofs.Tryz.prog 234 [(0, 1), (1, 1)] (Value.agg #[Value.slice none 0 0, Value.int .i64 0]).cells.toList := ⟨fun parts => by kernel_rfl⟩
instance : TBuild Go.Proofs.Tryz.prog 246 [(0, 1), (1, 1), (2, 1), (3, 1)] (Value.agg #[Value.int .i64 0, Value.slice none 0 0, Value.map none, Value.int .i64 0]).cells.toList := ⟨fun parts => by kernel_rfl⟩
instance : TBuild Go.Proofs.Tryz.prog 300 [(0, 1), (1, 1)] (Value.agg #[Value.slice none 0 0, Value.bool false]).cells.toList := ⟨fun parts => by kernel_rfl⟩
instance : TBuild Go.Proofs.Tryz.prog 364 [(0, 1), (1, 8), (9, 64), (73, 1), (74, 1)] (Value.agg ([Value.bool false, Value.int .u32 0, Value.int .u32 0, Value.int .u32 0, Value.int .u32 0, Value.int .u32 0, Value.int .u32 0, Value.int .u32 0, Value.int .u32 0] ++ List.replicate 64 (Value.int .u8 0) ++ [Value.int .i64 0, Value.int .u64 0]).toArray).cells.toList := ⟨fun parts => by kernel_rfl⟩
theorem mixed : Go.Proofs.Tryz.prog.follows .mixedOrders = true := by kernel_rfl
end Go.Proofs.YtcnpkmdooekmgaaGreatDoor
namespace Go.Proofs.YtcnpkmdooekmgaaGreatDoor
open Go Sl
theorem s1 {G R : Prop} (k : R) (h : R → G := by intro k; (first | refine r_nil ?_ | (refine k_move ?_; refine r_move rfl rfl ?_) | (refine k_assign ?_; refine r_assign rfl rfl ?_) | (refine k_nck ?_; first | refine r_nck rfl rfl ?_ | refine r_nckf rfl rfl ?_) | (refine k_fld ?_; first | refine r_fld0 rfl rfl ?_ | refine r_fld rfl rfl ?_) | (refine k_load ?_; first | refine r_load1L rfl rfl rfl ?_ | refine s_load1L rfl rfl rfl ?_ | refine r_load1 rfl rfl rfl rfl ?_ | refine r_loadW rfl rfl rfl rfl ?_ | refine s_loadW rfl rfl rfl rfl ?_) | (refine k_ext ?_; first | refine r_extL rfl rfl ?_ | refine r_ext rfl rfl rfl ?_) | (refine k_len ?_; refine r_lenS rfl rfl ?_) | (refine k_ixA ?_; refine ixA rfl rfl rfl rfl ?_) | (refine k_un ?_; first | refine r_notT rfl (by with_reducible rfl) rfl ?_ | refine r_notF rfl (by with_reducible rfl) rfl ?_ | refine r_not rfl rfl ?_) | (refine k_sl0 ?_; refine r_sliceA rfl (by decide) rfl ?_) | (refine k_conv ?_; refine r_conv rfl rfl ?_) | (refine k_pick ?_; first | refine r_pickT rfl (by with_reducible rfl) rfl rfl ?_ | refine r_pickF rfl (by with_reducible rfl) rfl rfl ?_) | (refine k_inc ?_; refine r_inc rfl (by clear k; omega) rfl ?_) | (refine k_eql ?_; first | refine r_peqS rfl rfl rfl ?_ | refine r_peqN rfl rfl rfl ?_ | refine r_meqS rfl rfl rfl ?_ | refine r_meqN rfl rfl rfl ?_ | refine r_peq rfl rfl rfl ?_) | (refine k_neq ?_; first | refine r_pneS rfl rfl rfl ?_ | refine r_pneN rfl rfl rfl ?_ | refine r_mneS rfl rfl rfl ?_ | refine r_mneN rfl rfl rfl ?_ | refine r_pne rfl rfl rfl ?_) | (refine g_mark ?_; first | refine gg_pass rfl rfl (by with_reducible rfl) ?_ | refine gg_skipT rfl rfl (by with_reducible rfl) (blt_any rfl) ?_ | refine gg_skipF rfl rfl (by with_reducible rfl) (blt_any rfl) ?_ | refine gg_skipU rfl rfl (by with_reducible rfl) (blt_any rfl) ?_) | refine t_seq ?_ | refine t_perm rfl ?_ | refine t_permE ?_ | refine j_then ?_ | refine t_region ?_ | refine t_draw [] [] mixed (by decide +kernel) ?_ | (refine k_cond ?_; first | refine t_condT rfl (by with_reducible rfl) ?_ | refine t_condF rfl (by with_reducible rfl) ?_) | refine t_block ?_ | refine j_in ?_ | refine t_skip ?_ | refine t_ret ?_ | refine j_then_ret ?_ | refine j_in_ret ?_ | refine t_exit ?_ | refine j_then_exit ?_ | refine j_in_exit ?_ | refine j_in_other rfl ?_ | refine t_scope ?_ | refine t_label ?_ | refine j_ng ?_ | refine j_ng_ret ?_ | refine j_ng_exit ?_); exact k) : G := h k
theorem s2 {G R : Prop} (k : R) (h : R → G := by intro k; (first | refine r_nil ?_ | (refine k_move ?_; refine r_move rfl rfl ?_) | (refine k_assign ?_; refine r_assign rfl rfl ?_) | (refine k_nck ?_; first | refine r_nck rfl rfl ?_ | refine r_nckf rfl rfl ?_) | (refine k_fld ?_; first | refine r_fld0 rfl rfl ?_ | refine r_fld rfl rfl ?_) | (refine k_load ?_; first | refine r_load1L rfl rfl rfl ?_ | refine s_load1L rfl rfl rfl ?_ | refine r_load1 rfl rfl rfl rfl ?_ | refine r_loadW rfl rfl rfl rfl ?_ | refine s_loadW rfl rfl rfl rfl ?_) | (refine k_ext ?_; first | refine r_extL rfl rfl ?_ | refine r_ext rfl rfl rfl ?_) | (refine k_len ?_; refine r_lenS rfl rfl ?_) | (refine k_ixA ?_; refine ixA rfl rfl rfl rfl ?_) | (refine k_un ?_; first | refine r_notT rfl (by with_reducible rfl) rfl ?_ | refine r_notF rfl (by with_reducible rfl) rfl ?_ | refine r_not rfl rfl ?_) | (refine k_sl0 ?_; refine r_sliceA rfl (by decide) rfl ?_) | (refine k_conv ?_; refine r_conv rfl rfl ?_) | (refine k_pick ?_; first | refine r_pickT rfl (by with_reducible rfl) rfl rfl ?_ | refine r_pickF rfl (by with_reducible rfl) rfl rfl ?_) | (refine k_bin ?_; first | refine r_icmpT rfl rfl rfl rfl ?_ | refine r_icmpF rfl rfl rfl rfl ?_) | (refine k_inc ?_; refine r_inc rfl (by clear k; omega) rfl ?_) | (refine k_eql ?_; first | refine r_peqS rfl rfl rfl ?_ | refine r_peqN rfl rfl rfl ?_ | refine r_meqS rfl rfl rfl ?_ | refine r_meqN rfl rfl rfl ?_ | refine r_peq rfl rfl rfl ?_) | (refine k_neq ?_; first | refine r_pneS rfl rfl rfl ?_ | refine r_pneN rfl rfl rfl ?_ | refine r_mneS rfl rfl rfl ?_ | refine r_mneN rfl rfl rfl ?_ | refine r_pne rfl rfl rfl ?_) | (refine g_mark ?_; first | refine gg_pass rfl rfl (by with_reducible rfl) ?_ | refine gg_skipT rfl rfl (by with_reducible rfl) (blt_any rfl) ?_ | refine gg_skipF rfl rfl (by with_reducible rfl) (blt_any rfl) ?_ | refine gg_skipU rfl rfl (by with_reducible rfl) (blt_any rfl) ?_) | refine t_seq ?_ | refine t_perm rfl ?_ | refine t_permE ?_ | refine j_then ?_ | refine t_region ?_ | refine t_draw [] [] mixed (by decide +kernel) ?_ | (refine k_cond ?_; first | refine t_condT rfl (by with_reducible rfl) ?_ | refine t_condF rfl (by with_reducible rfl) ?_) | refine t_block ?_ | refine j_in ?_ | refine t_skip ?_ | refine t_ret ?_ | refine j_then_ret ?_ | refine j_in_ret ?_ | refine t_exit ?_ | refine j_then_exit ?_ | refine j_in_exit ?_ | refine j_in_other rfl ?_ | refine t_scope ?_ | refine t_label ?_ | refine j_ng ?_ | refine j_ng_ret ?_ | refine j_ng_exit ?_); exact k) : G := h k
theorem leD {A B : List Assn} (h : Ent A B := by first | exact Le.ent | (dsimp only; exact Le.ent) | (dsimp only [List.cons_append, List.nil_append]; exact Le.ent) | (dsimp only [List.cons_append, List.nil_append]; simp only [List.take_zero, List.map_nil, List.flatMap_nil, List.length_nil]; exact Le.ent)) : Ent A B := h
end Go.Proofs.YtcnpkmdooekmgaaGreatDoor
namespace Go.Proofs.YtcnpkmdooekmgaaGreatDoor
open Go Sl
attribute [local irreducible] cw sw J Exit.then Exit.inBlock Exit.noGoto bodyPost swG swL permL
abbrev Pure (f : FuncId) (args : List Value) (v : Value) : Prop := ∀ Φ : Base, Sl.Fn Tryz.prog Φ f args [] (fun _ : Unit => True) (fun _ => v) (fun _ => [])
theorem wrapU8 {n : Nat} (h : n < 256) : IntKind.u8.wrap (n : Int) = (n : Int) := by
  simp [IntKind.wrap, IntKind.signed, IntKind.bits]; omega
theorem wrapM8 (n : Nat) : IntKind.u8.wrap (n : Int) = ((n % 256 : Nat) : Int) := by
  simp [IntKind.wrap, IntKind.signed, IntKind.bits]
theorem wrapU32 {n : Nat} (h : n < 4294967296) : IntKind.u32.wrap (n : Int) = (n : Int) := by
  simp [IntKind.wrap, IntKind.signed, IntKind.bits]; omega
theorem wrapU64 {n : Nat} (h : n < 18446744073709551616) : IntKind.u64.wrap (n : Int) = (n : Int) := by
  simp [IntKind.wrap, IntKind.signed, IntKind.bits]; omega
theorem wrapM64 (n : Nat) : IntKind.u64.wrap (n : Int) = ((n % 18446744073709551616 : Nat) : Int) := by
  simp [IntKind.wrap, IntKind.signed, IntKind.bits]
theorem width8_c : Pure F.octet_width_uint8 [] (i64 1) := by
  intro Φ
  refine fn_of rfl rfl (fun F => ?_)
  dsimp only [argEnv, List.cons_append, List.nil_append, Nat.zero_add, Nat.reduceAdd]
  repeat refine s1 ?_
  refine r_cpl rfl rfl ?_
  repeat refine s1 ?_
  refine t_loop (σ := Nat) (fun i => [(1, i64 i), (2, .int .u8 ((255 / 256 ^ i : Nat) : Int))]) (fun _ => F) (fun i => i ≤ 1) (fun i => 1 - i) 0 (by decide) ⟨rfl, rfl, trivial⟩ (Ent.refl _) ?_
  intro i hi
  repeat refine s1 ?_
  refine r_iop rfl rfl rfl rfl ?_
  repeat refine s1 ?_
  have hw : 255 / 256 ^ i / 256 = 255 / 256 ^ (i + 1) := by rw [Nat.div_div_eq_div_mul, Nat.pow_succ]
  have hle : 255 / 256 ^ i ≤ 255 := Nat.div_le_self _ _
  have hle1 : 255 / 256 ^ (i + 1) ≤ 255 := Nat.div_le_self _ _
  refine t_condN rfl (fun h => ?_) (fun h => ?_)
  · have hi2 : i < 1 := by
      rcases Nat.lt_or_ge i 1 with h2 | h2
      · exact h2
      · exfalso; apply h
        have : i = 1 := by omega
        subst this; rfl
    repeat refine s1 ?_
    rw [wrapU64 (n := 255 / 256 ^ i) (by omega)]
    refine r_shr rfl rfl (by decide) (by decide) rfl ?_
    refine j_val (.int .u64 ((255 / 256 ^ (i + 1) : Nat) : Int)) (by rw [← hw]; simp) ?_
    repeat refine s1 ?_
    rw [wrapU8 (n := 255 / 256 ^ (i + 1)) (by omega)]
    exact j_again (i + 1) (by omega) (by omega) ⟨rfl, rfl, trivial⟩ (Ent.refl _)
  · have hi2 : i = 1 := by
      rcases Nat.lt_or_ge i 1 with h2 | h2
      · exfalso
        have h3 : 255 / 256 ^ i = 0 := by omega
        have h4 : 256 ^ i ≤ 256 ^ 0 := Nat.pow_le_pow_right (by decide) (by omega)
        have h5 := Nat.div_eq_zero_iff.1 h3
        have h6 : (256 ^ 0 : Nat) ≤ 255 := by decide
        rcases h5 with h5 | h5
        · exact absurd h5 (Nat.ne_of_gt (Nat.pow_pos (by decide)))
        · omega
      · omega
    subst hi2
    repeat refine s1 ?_
    refine j_fin rfl (.cons (rv_tmp rfl) .nil) () (by rfl) (by trivial)
theorem width32_c : Pure F.octet_width_uint32 [] (i64 4) := by
  intro Φ
  refine fn_of rfl rfl (fun F => ?_)
  dsimp only [argEnv, List.cons_append, List.nil_append, Nat.zero_add, Nat.reduceAdd]
  repeat refine s1 ?_
  refine r_cpl rfl rfl ?_
  repeat refine s1 ?_
  refine t_loop (σ := Nat) (fun i => [(1, i64 i), (2, .int .u32 ((4294967295 / 256 ^ i : Nat) : Int))]) (fun _ => F) (fun i => i ≤ 4) (fun i => 4 - i) 0 (by decide) ⟨rfl, rfl, trivial⟩ (Ent.refl _) ?_
  intro i hi
  repeat refine s1 ?_
  refine r_iop rfl rfl rfl rfl ?_
  repeat refine s1 ?_
  have hw : 4294967295 / 256 ^ i / 256 = 4294967295 / 256 ^ (i + 1) := by rw [Nat.div_div_eq_div_mul, Nat.pow_succ]
  have hle : 4294967295 / 256 ^ i ≤ 4294967295 := Nat.div_le_self _ _
  have hle1 : 4294967295 / 256 ^ (i + 1) ≤ 4294967295 := Nat.div_le_self _ _
  refine t_condN rfl (fun h => ?_) (fun h => ?_)
  · have hi2 : i < 4 := by
      rcases Nat.lt_or_ge i 4 with h2 | h2
      · exact h2
      · exfalso; apply h
        have : i = 4 := by omega
        subst this; rfl
    repeat refine s1 ?_
    rw [wrapU64 (n := 4294967295 / 256 ^ i) (by omega)]
    refine r_shr rfl rfl (by decide) (by decide) rfl ?_
    refine j_val (.int .u64 ((4294967295 / 256 ^ (i + 1) : Nat) : Int)) (by rw [← hw]; simp) ?_
    repeat refine s1 ?_
    rw [wrapU32 (n := 4294967295 / 256 ^ (i + 1)) (by omega)]
    exact j_again (i + 1) (by omega) (by omega) ⟨rfl, rfl, trivial⟩ (Ent.refl _)
  · have hi2 : i = 4 := by
      rcases Nat.lt_or_ge i 4 with h2 | h2
      · exfalso
        have h3 : 4294967295 / 256 ^ i = 0 := by omega
        have h4 : 256 ^ i ≤ 256 ^ 3 := Nat.pow_le_pow_right (by decide) (by omega)
        have h5 := Nat.div_eq_zero_iff.1 h3
        have h6 : (256 ^ 3 : Nat) ≤ 4294967295 := by decide
        rcases h5 with h5 | h5
        · exact absurd h5 (Nat.ne_of_gt (Nat.pow_pos (by decide)))
        · omega
      · omega
    subst hi2
    repeat refine s1 ?_
    refine j_fin rfl (.cons (rv_tmp rfl) .nil) () (by rfl) (by trivial)
theorem Ent.unvec0 {b n cap : Nat} {E : TypeId} {s : Nat} {xs : List Value} (hc : cap = n) (L : List Assn) : Ent (Sl.vec (some ⟨b, 0, none⟩) n cap E s xs :: L) (pt b (.cells xs.toArray E (0, 0)) :: L) := fun _ _ ⟨p1, p2, pa, pb, pc, ⟨hl, hn, hd⟩, st⟩ => by
  rcases hd with ⟨h, _⟩ | ⟨b', off, pre, post, h, h1, h2, h3⟩
  · cases h
  · cases h
    subst hc
    have e1 : pre = [] := List.eq_nil_of_length_eq_zero h1
    have e2 : post = [] := List.eq_nil_of_length_eq_zero (by rw [h2, Nat.sub_self, Nat.zero_mul])
    subst e1 e2
    exact ⟨p1, p2, pa, pb, pc, by show p1 b = _; simpa using h3, st⟩
/-- a number as so many bytes, the great ones first. -/
def be (n v : Nat) : List Nat := (List.range n).map fun i => v / 256 ^ (n - 1 - i) % 256
theorem be_len (n v : Nat) : (be n v).length = n := by simp [be]
theorem be_at {n v i : Nat} (h : i < n) : (be n v)[i]? = some (v / 256 ^ (n - 1 - i) % 256) := by simp [be, h]
theorem be_lt (n v : Nat) : ∀ x ∈ be n v, x < 256 := fun x hx => by
  obtain ⟨i, _, rfl⟩ := List.mem_map.1 hx
  exact Nat.mod_lt _ (by decide)
theorem put32_c (v : Nat) (hv : v < 2 ^ 32) (Φ : Base) : Sl.Fn Tryz.prog Φ F.octet_Put_uint32 [.int .u32 (v : Int)] [] (fun _ : Nat => True) (fun b => .slice (some ⟨b, 0, none⟩) 4 4) (fun b => [vec (some ⟨b, 0, none⟩) 4 4 T.uint8 1 ((be 4 v).map u8)]) := by
  refine fn_of rfl rfl (fun F => ?_)
  dsimp only [argEnv, List.cons_append, List.nil_append, Nat.zero_add, Nat.reduceAdd]
  repeat refine s1 ?_
  refine r_call rfl (blt_some rfl) rfl (width32_c Φ) ?_
  intro _ _; dsimp only [bnd, List.cons_append, List.nil_append]
  repeat refine s1 ?_
  refine r_makeSlice (n := 4) (c := 4) rfl rfl (by decide) (by decide) (by decide) rfl rfl rfl (fun b => ?_)
  refine j_ent (Ent.unvec0 rfl _) ?_
  repeat refine s1 ?_
  refine t_loop (σ := Nat × List Nat) (fun s => [(10, i64 s.1), (9, i64 4), (3, i64 4), (4, .slice (some ⟨b, 0, none⟩) 4 4), (0, .int .u32 (v : Int))]) (fun s => pt b (.cells (s.2.map u8).toArray T.uint8 (0, 0)) :: F)
    (fun s => s.1 ≤ 4 ∧ s.2.length = 4 ∧ ∀ j, j < s.1 → s.2[j]? = some (v / 256 ^ (4 - 1 - j) % 256)) (fun s => 4 - s.1) (0, List.replicate 4 0) ⟨by show 0 ≤ 4; decide, rfl, fun j hj => absurd hj (Nat.not_lt_zero j)⟩ ⟨rfl, rfl, rfl, rfl, rfl, trivial⟩ (Ent.refl _) ?_
  rintro ⟨i, xs⟩ ⟨hi, hl, hx⟩
  dsimp only at *
  repeat refine s1 ?_
  refine r_iop rfl rfl rfl rfl ?_
  repeat refine s1 ?_
  refine t_condD rfl (fun h => ?_) (fun h => ?_)
  · repeat refine s1 ?_
    rw [wrapU64 (n := v) (by omega)]
    refine r_subN (n := 1) rfl rfl (by decide) (by decide) rfl ?_
    repeat refine s1 ?_
    refine r_subN rfl rfl (by omega) (by decide) rfl ?_
    refine r_mulN (m := 8) rfl rfl (by omega) rfl ?_
    refine r_shr rfl rfl (by omega) (by simp [IntKind.bits]; omega) rfl ?_
    refine j_val (.int .u64 ((v / 256 ^ (4 - 1 - i) : Nat) : Int)) (by
      have e : (256 : Nat) ^ (4 - 1 - i) = 2 ^ (8 * (4 - 1 - i)) := by rw [Nat.pow_mul]
      rw [e, Int.toNat_natCast]; simp) ?_
    repeat refine s1 ?_
    rw [wrapM8 (v / 256 ^ (4 - 1 - i))]
    refine r_idx rfl rfl (by omega) (by omega) rfl ?_
    refine r_store1 rfl rfl (by simp [hl]; omega) rfl rfl ?_
    repeat refine s1 ?_
    refine j_again (i + 1, xs.set i (v / 256 ^ (4 - 1 - i) % 256)) ⟨by show i + 1 ≤ 4; omega, by simpa using hl, fun j hj => ?_⟩ (by show 4 - (i + 1) < 4 - i; omega) ⟨rfl, rfl, rfl, rfl, rfl, trivial⟩ ?_
    · by_cases e : j = i
      · subst e; exact List.getElem?_set_self (by omega)
      · show (xs.set i _)[j]? = _
        rw [List.getElem?_set_ne (Ne.symm e)]
        exact hx j (by have : j < i + 1 := hj; omega)
    · have e1 : (xs.map u8).set (0 + (i : Int).toNat * 1) (u8 (v / 256 ^ (4 - 1 - i) % 256)) = (xs.set i (v / 256 ^ (4 - 1 - i) % 256)).map u8 := by simp [List.map_set]
      rw [e1]
      exact Ent.refl _
  · have e : i = 4 := by omega
    subst e
    have hxs : xs = be 4 v := by
      apply List.ext_getElem?
      intro j
      by_cases hj : j < 4
      · rw [hx j hj, be_at hj]
      · rw [List.getElem?_eq_none (by omega), List.getElem?_eq_none (by rw [be_len]; omega)]
    subst hxs
    repeat refine s1 ?_
    refine j_ent (Ent.vec0 (n := 4) (s := 1) (by simp [be_len]) _) ?_
    refine j_fin rfl (.cons (rv_tmp rfl) .nil) b (by rfl) (by trivial)
/-- a row of bytes that nobody turns. -/
abbrev brow (a : Option Addr) (n cap : Nat) (xs : List Nat) : Assn := isl a n cap T.uint8 1 (xs.map u8)
theorem equal_c (a a2 : Option Addr) (n cap n2 cap2 : Nat) (xs ys : List Nat) (hx : ∀ x ∈ xs, x < 256) (hy : ∀ y ∈ ys, y < 256) (Φ : Base) :
    Sl.Fn Tryz.prog Φ F.bytes_Equal [.slice a n cap, .slice a2 n2 cap2] [brow a n cap xs, brow a2 n2 cap2 ys] (fun _ : Unit => True) (fun _ => .bool (decide (xs = ys))) (fun _ => []) := by
  refine fn_of rfl rfl (fun F => ?_)
  dsimp only [argEnv, List.cons_append, List.nil_append, Nat.zero_add, Nat.reduceAdd]
  repeat refine s1 ?_
  refine r_toStr xs rfl rfl rfl rfl ?_
  repeat refine s1 ?_
  refine r_toStr ys rfl rfl rfl rfl ?_
  repeat refine s1 ?_
  refine r_streq rfl rfl rfl ?_
  repeat refine s1 ?_
  refine j_fin rfl (.cons (rv_tmp rfl) .nil) () (by simp only [pack]; rw [bstr_beq hx hy]) (by trivial)
theorem clone_c (a : Option Addr) (n cap : Nat) (vs : List Value) (h1 : ∀ v ∈ vs, v.oneCell' = true) (hb : n ≤ 140737488355328) (Φ : Base) :
    Sl.Fn Tryz.prog Φ F.slices_Clone_byte_byte [.slice a n cap] [isl a n cap T.uint8 1 vs] (fun _ : Option Addr × Nat => True) (fun p => .slice p.1 n p.2) (fun p => [vec p.1 n p.2 T.uint8 1 vs]) := by
  refine fn_of rfl rfl (fun F => ?_)
  dsimp only [argEnv, List.cons_append, List.nil_append, Nat.zero_add, Nat.reduceAdd]
  refine j_leni (fun hl hc ha => ?_)
  repeat refine s1 ?_
  refine r_seq rfl rfl rfl ?_
  repeat refine s1 ?_
  cases a with
  | none =>
    have hn : n = 0 := by
      rcases Nat.eq_zero_or_pos n with h | h
      · exact h
      · obtain ⟨b, off, h⟩ := ha h; cases h
    subst hn
    have hv : vs = [] := List.eq_nil_of_length_eq_zero (by simpa using hl)
    subst hv
    refine t_condT rfl rfl ?_
    repeat refine s1 ?_
    refine j_ent (Ent.vecNil (E := T.uint8) (s := 1) _) ?_
    refine j_fin rfl (.cons (rv_tmp rfl) .nil) (none, 0) (by rfl) (by trivial)
  | some ad =>
    refine t_condF rfl rfl ?_
    repeat refine s1 ?_
    refine r_build1s [] [] rfl rfl (by simp) (by simp) rfl rfl rfl (fun b => ?_)
    repeat refine s1 ?_
    refine r_append (s := 1) (xs := []) (ys := vs) rfl rfl (by decide) (by rfl) h1 (by omega) (by omega) rfl rfl (fun a' cap' hn => ?_)
    repeat refine s1 ?_
    rw [Nat.zero_add, List.nil_append]
    refine j_fin rfl (.cons (rv_tmp rfl) .nil) (a', cap') (by rfl) (by trivial)
/-- a reader of bytes: what is left; none: it was short. -/
def rdr (p : Nat) : Option (List Nat) → Assn
  | some bs => ex fun q : Option Addr × Nat => all [pt p (.cells #[.slice q.1 bs.length q.2, .bool false] T.octet_Reader (0, 0)), brow q.1 bs.length q.2 bs]
  | none => ex fun q : Option Addr × Nat × Nat => pt p (.cells #[.slice q.1 q.2.1 q.2.2, .bool true] T.octet_Reader (0, 0))
theorem ent_rdr {p : Nat} {a : Option Addr} {cap : Nat} {bs : List Nat} {L : List Assn} : Ent (pt p (.cells #[.slice a bs.length cap, .bool false] T.octet_Reader (0, 0)) :: brow a bs.length cap bs :: L) (rdr p (some bs) :: L) :=
  (Ent.unall [pt p (.cells #[.slice a bs.length cap, .bool false] T.octet_Reader (0, 0)), brow a bs.length cap bs] L).trans (Ent.mkEx (f := fun q : Option Addr × Nat => all [pt p (.cells #[.slice q.1 bs.length q.2, .bool false] T.octet_Reader (0, 0)), brow q.1 bs.length q.2 bs]) (a, cap))
theorem ent_rdrN {p : Nat} {a : Option Addr} {n cap : Nat} {L : List Assn} : Ent (pt p (.cells #[.slice a n cap, .bool true] T.octet_Reader (0, 0)) :: L) (rdr p none :: L) :=
  Ent.mkEx (f := fun q : Option Addr × Nat × Nat => pt p (.cells #[.slice q.1 q.2.1 q.2.2, .bool true] T.octet_Reader (0, 0))) (a, n, cap)
theorem j_rdr {X : Cx} {e : Env} {L : List Assn} {G : Act → World → Prop} {p : Nat} {bs : List Nat} (h : ∀ a cap, J X e (pt p (.cells #[.slice a bs.length cap, .bool false] T.octet_Reader (0, 0)) :: brow a bs.length cap bs :: L) G) : J X e (rdr p (some bs) :: L) G :=
  j_ex fun q => j_ent (Ent.all [pt p (.cells #[.slice q.1 bs.length q.2, .bool false] T.octet_Reader (0, 0)), brow q.1 bs.length q.2 bs] L) (h q.1 q.2)
theorem j_rdrN {X : Cx} {e : Env} {L : List Assn} {G : Act → World → Prop} {p : Nat} (h : ∀ a n cap, J X e (pt p (.cells #[.slice a n cap, .bool true] T.octet_Reader (0, 0)) :: L) G) : J X e (rdr p none :: L) G :=
  j_ex fun q => h q.1 q.2.1 q.2.2
theorem read_c (a : Option Addr) (n cap : Nat) (bs : List Nat) (hb : n ≤ 140737488355328) (hn : bs.length = n) (Φ : Base) :
    Sl.Fn Tryz.prog Φ F.octet_Read [.slice a n cap] [brow a n cap bs] (fun _ : Nat => True) (fun p => .pointer (some ⟨p, 0, none⟩)) (fun p => [rdr p (some bs)]) := by
  subst hn
  refine fn_of rfl rfl (fun F => ?_)
  dsimp only [argEnv, List.cons_append, List.nil_append, Nat.zero_add, Nat.reduceAdd]
  repeat refine s1 ?_
  refine r_call rfl (blt_some rfl) rfl (clone_c a bs.length cap (bs.map u8) (fun v hv => by obtain ⟨x, _, rfl⟩ := List.mem_map.1 hv; rfl) hb Φ) ?_
  rintro ⟨a', cap'⟩ _
  dsimp only [bnd, List.cons_append, List.nil_append]
  repeat refine s1 ?_
  refine r_build (cells := [.slice a' bs.length cap', .bool false]) rfl rfl rfl ?_
  repeat refine s1 ?_
  refine r_box (cs := [.slice a' bs.length cap', .bool false]) rfl rfl rfl rfl (fun p => ?_)
  repeat refine s1 ?_
  refine j_freezeV a' bs.length cap' T.uint8 1 (bs.map u8) ?_
  refine j_ent ((Ent.swap _ _ _).trans ent_rdr) ?_
  refine j_fin rfl (.cons (rv_tmp rfl) .nil) p (by rfl) (by trivial)
theorem j_split {X : Cx} {e : Env} {L R : List Assn} {G : Act → World → Prop} (A : List Assn) [sp : Split A L R] (h : J X e (A ++ R) G) : J X e L G := j_ent sp.ent h
theorem bytes_c (p k : Nat) (bs : List Nat) (hk : k ≤ bs.length) (Φ : Base) :
    Sl.Fn Tryz.prog Φ F.octet_Reader_Bytes [.pointer (some ⟨p, 0, none⟩), i64 k] [rdr p (some bs)] (fun _ : Option Addr => True) (fun a => .slice a k k) (fun a => [rdr p (some (bs.drop k)), brow a k k (bs.take k)]) := by
  refine fn_of rfl rfl (fun F => ?_)
  dsimp only [argEnv, List.cons_append, List.nil_append, Nat.zero_add, Nat.reduceAdd]
  refine j_rdr (fun a cap => ?_)
  refine j_ent (Ent.swap _ _ _) ?_
  refine j_leni (fun hl hc ha => ?_)
  repeat refine s1 ?_
  refine r_cmpF rfl rfl rfl (by simp) rfl ?_
  repeat refine s1 ?_
  refine r_cmpF rfl rfl rfl (by simp; omega) rfl ?_
  repeat refine s1 ?_
  refine r_piece 0 k k rfl (.inl ⟨rfl, rfl⟩) (.inr ⟨.i64, rfl⟩) (.inr ⟨.i64, rfl⟩) (by omega) (by omega) (by omega) rfl ?_
  repeat refine s1 ?_
  refine r_piece k bs.length cap rfl (.inr ⟨.i64, rfl⟩) (.inl ⟨rfl, rfl, rfl⟩) (.inl ⟨rfl, rfl⟩) (by omega) (by omega) (by omega) rfl ?_
  repeat refine s1 ?_
  refine r_store1 rfl rfl (by simp) rfl rfl ?_
  repeat refine s1 ?_
  have e1 : ((bs.map u8).drop (0 * 1)).take ((k - 0) * 1) = (bs.take k).map u8 := by simp [List.map_take]
  have e2 : ((bs.map u8).drop (k * 1)).take ((bs.length - k) * 1) = (bs.drop k).map u8 := by
    rw [Nat.mul_one, Nat.mul_one, List.take_of_length_le (by simp), List.map_drop]
  have e3 : bs.length - k = (bs.drop k).length := by simp
  have P1 := Ent.piece (a := a) (n := bs.length) (cap := cap) (lo := 0) (hi := k) (mx := k) (E := T.uint8) (s := 1) (xs := bs.map u8) (by omega) hk (by omega) rfl
  have P2 := Ent.piece (a := a) (n := bs.length) (cap := cap) (lo := k) (hi := bs.length) (mx := cap) (E := T.uint8) (s := 1) (xs := bs.map u8) hk (Nat.le_refl _) hc rfl
  rw [e1] at P1
  rw [e2] at P2
  refine j_ent (P1 _) ?_
  refine j_ent (Ent.swap _ _ _) ?_
  refine j_ent (P2 _) ?_
  generalize (if k = 0 then a else a.map (·.add (0 * 1))) = a1
  generalize (if cap = k then a else a.map (·.add (k * 1))) = a2
  rw [e3, Nat.sub_zero]
  refine j_split [pt p (.cells #[.slice a2 (bs.drop k).length (cap - k), .bool false] T.octet_Reader (0, 0)), brow a2 (bs.drop k).length (cap - k) (bs.drop k)] ?_
  dsimp only [List.cons_append, List.nil_append]
  refine j_ent ent_rdr ?_
  refine j_fin rfl (.cons (rv_tmp rfl) .nil) a1 (by rfl) (by trivial)
theorem bytesS_c (p k : Nat) (bs : List Nat) (hk : bs.length < k) (Φ : Base) :
    Sl.Fn Tryz.prog Φ F.octet_Reader_Bytes [.pointer (some ⟨p, 0, none⟩), i64 k] [rdr p (some bs)] (fun _ : Unit => True) (fun _ => .slice none 0 0) (fun _ => [rdr p none]) := by
  refine fn_of rfl rfl (fun F => ?_)
  dsimp only [argEnv, List.cons_append, List.nil_append, Nat.zero_add, Nat.reduceAdd]
  refine j_rdr (fun a cap => ?_)
  repeat refine s1 ?_
  refine r_cmpF rfl rfl rfl (by simp) rfl ?_
  repeat refine s1 ?_
  refine r_cmpT rfl rfl rfl (by simp; omega) rfl ?_
  repeat refine s1 ?_
  refine r_store1 rfl rfl (by simp) rfl rfl ?_
  repeat refine s1 ?_
  refine j_ent ent_rdrN ?_
  refine j_fin rfl (.cons (rv_tmp rfl) .nil) () (by rfl) (by trivial)
theorem bytesN_c (p k : Nat) (Φ : Base) :
    Sl.Fn Tryz.prog Φ F.octet_Reader_Bytes [.pointer (some ⟨p, 0, none⟩), i64 k] [rdr p none] (fun _ : Unit => True) (fun _ => .slice none 0 0) (fun _ => [rdr p none]) := by
  refine fn_of rfl rfl (fun F => ?_)
  dsimp only [argEnv, List.cons_append, List.nil_append, Nat.zero_add, Nat.reduceAdd]
  refine j_rdrN (fun a n cap => ?_)
  repeat refine s1 ?_
  refine r_store1 rfl rfl (by simp) rfl rfl ?_
  repeat refine s1 ?_
  refine j_ent ent_rdrN ?_
  refine j_fin rfl (.cons (rv_tmp rfl) .nil) () (by rfl) (by trivial)
/-- what 'Rest' gives. -/
def num (bs : List Nat) : Nat := bs.foldl (fun v c => v * 256 + c) 0
theorem num_snoc (bs : List Nat) (c : Nat) : num (bs ++ [c]) = num bs * 256 + c := by simp [num]
theorem num_lt : ∀ (n : Nat) (bs : List Nat), bs.length = n → (∀ x ∈ bs, x < 256) → num bs < 256 ^ n
  | 0, bs, h, _ => by have : bs = [] := List.eq_nil_of_length_eq_zero h; subst this; decide
  | n + 1, bs, h, hx => by
    obtain ⟨b, c, rfl⟩ : ∃ b c, bs = b ++ [c] := ⟨bs.dropLast, bs.getLast (by intro e; rw [e] at h; cases h), (List.dropLast_concat_getLast _).symm⟩
    have h1 := num_lt n b (by simpa using h) (fun x hx' => hx x (by simp [hx']))
    have h2 := hx c (by simp)
    rw [num_snoc, Nat.pow_succ]
    omega
theorem or_u64 {x c : Nat} (hx : x < 2 ^ 56) (hc : c < 256) : Go.bits .or .u64 ((x * 256 : Nat) : Int) (c : Int) = ((x * 256 + c : Nat) : Int) := by
  show IntKind.u64.wrap ((BitVec.ofInt 64 ((x * 256 : Nat) : Int) ||| BitVec.ofInt 64 (c : Int)).toNat : Int) = _
  have e1 : (BitVec.ofInt 64 ((x * 256 : Nat) : Int)).toNat = x * 256 := by simp; omega
  have e2 : (BitVec.ofInt 64 (c : Int)).toNat = c := by simp; omega
  have e3 : x * 256 ||| c = x * 256 + c := by
    have := Nat.shiftLeft_add_eq_or_of_lt (show c < 2 ^ 8 by omega) x
    rw [Nat.shiftLeft_eq] at this
    exact this.symm
  rw [BitVec.toNat_or, e1, e2, e3, wrapU64 (by omega)]
theorem get8_c (a : Option Addr) (cap : Nat) (bs : List Nat) (hl : bs.length = 1) (hx : ∀ x ∈ bs, x < 256) (Φ : Base) :
    Sl.Fn Tryz.prog Φ F.octet_Get_uint8 [.slice a 1 cap, i64 0] [brow a 1 cap bs] (fun _ : Unit => True) (fun _ => .tuple #[.int .u8 (num bs : Int), i64 0]) (fun _ => []) := by
  refine fn_of rfl rfl (fun F => ?_)
  dsimp only [argEnv, List.cons_append, List.nil_append, Nat.zero_add, Nat.reduceAdd]
  refine j_leni (fun hll hc ha => ?_)
  obtain ⟨b, off, hab⟩ := ha (by decide)
  subst hab
  repeat refine s1 ?_
  refine r_call rfl (blt_some rfl) rfl (width8_c Φ) ?_
  intro _ _; dsimp only [bnd, List.cons_append, List.nil_append]
  repeat refine s1 ?_
  refine r_cmpF rfl rfl rfl (by decide) rfl ?_
  repeat refine s1 ?_
  refine r_cmpF rfl rfl rfl (by decide) rfl ?_
  repeat refine s1 ?_
  refine r_subN (m := 1) (n := 0) rfl rfl (by decide) (by decide) rfl ?_
  repeat refine s1 ?_
  refine r_cmpF rfl rfl rfl (by decide) rfl ?_
  repeat refine s1 ?_
  refine r_addN (m := 0) (n := 1) rfl rfl (by decide) rfl ?_
  refine r_piece 0 1 cap rfl (.inr ⟨.i64, rfl⟩) (.inr ⟨.i64, rfl⟩) (.inl ⟨rfl, rfl⟩) (by decide) (by omega) (by omega) rfl ?_
  have e : (if cap = 0 then (some ⟨b, off, none⟩ : Option Addr) else (some ⟨b, off, none⟩ : Option Addr).map (·.add (0 * 1))) = some ⟨b, off, none⟩ := by rw [if_neg (by omega)]; simp [add_at]
  rw [e]
  repeat refine s1 ?_
  have hlt := num_lt
  refine t_loop (σ := Nat) (fun i => [(34, i64 i), (33, i64 1), (32, .slice (some ⟨b, off, none⟩) 1 cap), (7, .int .u64 (num (bs.take i) : Int))]) (fun _ => brow (some ⟨b, off, none⟩) 1 cap bs :: F)
    (fun i => i ≤ 1) (fun i => 1 - i) 0 (by decide) ⟨rfl, rfl, rfl, rfl, trivial⟩ (Ent.refl _) ?_
  intro i hi
  dsimp only at *
  repeat refine s1 ?_
  refine r_iop rfl rfl rfl rfl ?_
  repeat refine s1 ?_
  refine t_condD rfl (fun h => ?_) (fun h => ?_)
  · have hi2 : i < bs.length := by omega
    have hv : num (bs.take i) < 256 ^ 0 := Nat.lt_of_lt_of_le (num_lt i _ (by simp; omega) (fun x hx' => hx x (List.mem_of_mem_take hx'))) (Nat.pow_le_pow_right (by decide) (by omega))
    have hp : (256 : Nat) ^ 0 ≤ 2 ^ 24 := by decide
    repeat refine s1 ?_
    refine r_idx rfl rfl (by omega) (by omega) rfl ?_
    refine r_loadI (n := 1) (cap := cap) (E := T.uint8) (s := 1) (xs := bs.map u8) (off := off) rfl (j := i) (v := u8 bs[i]) (by omega) (by simp [List.getElem?_eq_getElem hi2]) rfl rfl ?_
    repeat refine s1 ?_
    refine r_shl rfl rfl (by decide) rfl ?_
    refine j_val (.int .u64 ((num (bs.take i) * 256 : Nat) : Int)) (by
      have e8 : IntKind.u64.wrap ((num (bs.take i) : Int) * 2 ^ min (8 : Int).toNat IntKind.u64.bits) = ((num (bs.take i) * 256 : Nat) : Int) := by
        have : (num (bs.take i) : Int) * 2 ^ min (8 : Int).toNat IntKind.u64.bits = ((num (bs.take i) * 256 : Nat) : Int) := by simp [IntKind.bits]
        rw [this, wrapU64 (by omega)]
      rw [e8]) ?_
    repeat refine s1 ?_
    have hb8 := hx bs[i] (List.getElem_mem hi2)
    rw [wrapU64 (n := bs[i]) (by omega)]
    refine r_iop rfl rfl rfl rfl ?_
    refine j_val (.int .u64 ((num (bs.take i) * 256 + bs[i] : Nat) : Int)) (by rw [or_u64 (by omega) hb8]) ?_
    repeat refine s1 ?_
    have ht : bs.take (i + 1) = bs.take i ++ [bs[i]] := by rw [List.take_add_one, List.getElem?_eq_getElem hi2]; rfl
    exact j_again (i + 1) (by omega) (by omega) ⟨rfl, rfl, rfl, by rw [ht, num_snoc]; rfl, trivial⟩ (Ent.refl _)
  · have e : i = 1 := by omega
    subst e
    have hv : num bs < 2 ^ 8 := Nat.lt_of_lt_of_le (num_lt 1 bs hl hx) (by decide)
    repeat refine s1 ?_
    rw [List.take_of_length_le (by omega), wrapU8 (n := num bs) (by omega)]
    refine j_fin rfl (.cons (rv_tmp rfl) (.cons (rv_tmp rfl) .nil)) () (by rfl) (by trivial)
theorem get32_c (a : Option Addr) (cap : Nat) (bs : List Nat) (hl : bs.length = 4) (hx : ∀ x ∈ bs, x < 256) (Φ : Base) :
    Sl.Fn Tryz.prog Φ F.octet_Get_uint32 [.slice a 4 cap, i64 0] [brow a 4 cap bs] (fun _ : Unit => True) (fun _ => .tuple #[.int .u32 (num bs : Int), i64 0]) (fun _ => []) := by
  refine fn_of rfl rfl (fun F => ?_)
  dsimp only [argEnv, List.cons_append, List.nil_append, Nat.zero_add, Nat.reduceAdd]
  refine j_leni (fun hll hc ha => ?_)
  obtain ⟨b, off, hab⟩ := ha (by decide)
  subst hab
  repeat refine s1 ?_
  refine r_call rfl (blt_some rfl) rfl (width32_c Φ) ?_
  intro _ _; dsimp only [bnd, List.cons_append, List.nil_append]
  repeat refine s1 ?_
  refine r_cmpF rfl rfl rfl (by decide) rfl ?_
  repeat refine s1 ?_
  refine r_cmpF rfl rfl rfl (by decide) rfl ?_
  repeat refine s1 ?_
  refine r_subN (m := 4) (n := 0) rfl rfl (by decide) (by decide) rfl ?_
  repeat refine s1 ?_
  refine r_cmpF rfl rfl rfl (by decide) rfl ?_
  repeat refine s1 ?_
  refine r_addN (m := 0) (n := 4) rfl rfl (by decide) rfl ?_
  refine r_piece 0 4 cap rfl (.inr ⟨.i64, rfl⟩) (.inr ⟨.i64, rfl⟩) (.inl ⟨rfl, rfl⟩) (by decide) (by omega) (by omega) rfl ?_
  have e : (if cap = 0 then (some ⟨b, off, none⟩ : Option Addr) else (some ⟨b, off, none⟩ : Option Addr).map (·.add (0 * 1))) = some ⟨b, off, none⟩ := by rw [if_neg (by omega)]; simp [add_at]
  rw [e]
  repeat refine s1 ?_
  have hlt := num_lt
  refine t_loop (σ := Nat) (fun i => [(34, i64 i), (33, i64 4), (32, .slice (some ⟨b, off, none⟩) 4 cap), (7, .int .u64 (num (bs.take i) : Int))]) (fun _ => brow (some ⟨b, off, none⟩) 4 cap bs :: F)
    (fun i => i ≤ 4) (fun i => 4 - i) 0 (by decide) ⟨rfl, rfl, rfl, rfl, trivial⟩ (Ent.refl _) ?_
  intro i hi
  dsimp only at *
  repeat refine s1 ?_
  refine r_iop rfl rfl rfl rfl ?_
  repeat refine s1 ?_
  refine t_condD rfl (fun h => ?_) (fun h => ?_)
  · have hi2 : i < bs.length := by omega
    have hv : num (bs.take i) < 256 ^ 3 := Nat.lt_of_lt_of_le (num_lt i _ (by simp; omega) (fun x hx' => hx x (List.mem_of_mem_take hx'))) (Nat.pow_le_pow_right (by decide) (by omega))
    have hp : (256 : Nat) ^ 3 ≤ 2 ^ 24 := by decide
    repeat refine s1 ?_
    refine r_idx rfl rfl (by omega) (by omega) rfl ?_
    refine r_loadI (n := 4) (cap := cap) (E := T.uint8) (s := 1) (xs := bs.map u8) (off := off) rfl (j := i) (v := u8 bs[i]) (by omega) (by simp [List.getElem?_eq_getElem hi2]) rfl rfl ?_
    repeat refine s1 ?_
    refine r_shl rfl rfl (by decide) rfl ?_
    refine j_val (.int .u64 ((num (bs.take i) * 256 : Nat) : Int)) (by
      have e8 : IntKind.u64.wrap ((num (bs.take i) : Int) * 2 ^ min (8 : Int).toNat IntKind.u64.bits) = ((num (bs.take i) * 256 : Nat) : Int) := by
        have : (num (bs.take i) : Int) * 2 ^ min (8 : Int).toNat IntKind.u64.bits = ((num (bs.take i) * 256 : Nat) : Int) := by simp [IntKind.bits]
        rw [this, wrapU64 (by omega)]
      rw [e8]) ?_
    repeat refine s1 ?_
    have hb8 := hx bs[i] (List.getElem_mem hi2)
    rw [wrapU64 (n := bs[i]) (by omega)]
    refine r_iop rfl rfl rfl rfl ?_
    refine j_val (.int .u64 ((num (bs.take i) * 256 + bs[i] : Nat) : Int)) (by rw [or_u64 (by omega) hb8]) ?_
    repeat refine s1 ?_
    have ht : bs.take (i + 1) = bs.take i ++ [bs[i]] := by rw [List.take_add_one, List.getElem?_eq_getElem hi2]; rfl
    exact j_again (i + 1) (by omega) (by omega) ⟨rfl, rfl, rfl, by rw [ht, num_snoc]; rfl, trivial⟩ (Ent.refl _)
  · have e : i = 4 := by omega
    subst e
    have hv : num bs < 2 ^ 32 := Nat.lt_of_lt_of_le (num_lt 4 bs hl hx) (by decide)
    repeat refine s1 ?_
    rw [List.take_of_length_le (by omega), wrapU32 (n := num bs) (by omega)]
    refine j_fin rfl (.cons (rv_tmp rfl) (.cons (rv_tmp rfl) .nil)) () (by rfl) (by trivial)
/-- a number read: its value, and what is left. -/
def rdU (w : Nat) : Option (List Nat) → Nat × Option (List Nat)
  | some bs => if w ≤ bs.length then (num (bs.take w), some (bs.drop w)) else (0, none)
  | none => (0, none)
theorem getN8_c (Φ : Base) : Sl.Fn Tryz.prog Φ F.octet_Get_uint8 [.slice none 0 0, i64 0] [] (fun _ : Unit => True) (fun _ => .tuple #[.int .u8 0, i64 10]) (fun _ => []) := by
  refine fn_of rfl rfl (fun F => ?_)
  dsimp only [argEnv, List.cons_append, List.nil_append, Nat.zero_add, Nat.reduceAdd]
  repeat refine s1 ?_
  refine r_call rfl (blt_some rfl) rfl (width8_c Φ) ?_
  intro _ _; dsimp only [bnd, List.cons_append, List.nil_append]
  repeat refine s1 ?_
  refine r_cmpF rfl rfl rfl (by decide) rfl ?_
  repeat refine s1 ?_
  refine r_cmpF rfl rfl rfl (by decide) rfl ?_
  repeat refine s1 ?_
  refine r_subN (m := 0) (n := 0) rfl rfl (by decide) (by decide) rfl ?_
  repeat refine s1 ?_
  refine r_cmpT rfl rfl rfl (by decide) rfl ?_
  repeat refine s1 ?_
  refine j_fin rfl (.cons (rv_tmp rfl) (.cons (rv_tmp rfl) .nil)) () (by rfl) (by trivial)
theorem next8_c (p : Nat) (s : Option (List Nat)) (hs : ∀ bs, s = some bs → ∀ x ∈ bs, x < 256) (Φ : Base) : Sl.Fn Tryz.prog Φ F.octet_next_uint8 [.pointer (some ⟨p, 0, none⟩)] [rdr p s] (fun _ : Unit => True) (fun _ => .int .u8 ((rdU 1 s).1 : Int)) (fun _ => [rdr p (rdU 1 s).2]) := by
  refine fn_of rfl rfl (fun F => ?_)
  dsimp only [argEnv, List.cons_append, List.nil_append, Nat.zero_add, Nat.reduceAdd]
  repeat refine s1 ?_
  refine r_call rfl (blt_some rfl) rfl (width8_c Φ) ?_
  intro _ _; dsimp only [bnd, List.cons_append, List.nil_append]
  cases s with
  | none =>
    have e : rdU 1 none = (0, none) := rfl
    rw [e]
    refine r_call rfl (blt_some rfl) rfl (bytesN_c p 1 Φ) ?_
    intro _ _; dsimp only [bnd, List.cons_append, List.nil_append]
    refine r_call rfl (blt_some rfl) rfl (getN8_c Φ) ?_
    intro _ _; dsimp only [bnd, List.cons_append, List.nil_append]
    repeat refine s1 ?_
    refine j_fin rfl (.cons (rv_tmp rfl) .nil) () (by rfl) (by trivial)
  | some bs =>
    by_cases h : 1 ≤ bs.length
    · have e : rdU 1 (some bs) = (num (bs.take 1), some (bs.drop 1)) := by simp only [rdU]; rw [if_pos h]
      rw [e]
      refine r_call rfl (blt_some rfl) rfl (bytes_c p 1 bs h Φ) ?_
      intro a _
      dsimp only [bnd, List.cons_append, List.nil_append]
      refine r_call rfl (blt_some rfl) rfl (get8_c a 1 (bs.take 1) (by simp; omega) (fun x hx => hs bs rfl x (List.mem_of_mem_take hx)) Φ) ?_
      intro _ _; dsimp only [bnd, List.cons_append, List.nil_append]
      repeat refine s1 ?_
      refine j_fin rfl (.cons (rv_tmp rfl) .nil) () (by rfl) (by trivial)
    · have e : rdU 1 (some bs) = (0, none) := by simp only [rdU]; rw [if_neg h]
      rw [e]
      refine r_call rfl (blt_some rfl) rfl (bytesS_c p 1 bs (by omega) Φ) ?_
      intro _ _; dsimp only [bnd, List.cons_append, List.nil_append]
      refine r_call rfl (blt_some rfl) rfl (getN8_c Φ) ?_
      intro _ _; dsimp only [bnd, List.cons_append, List.nil_append]
      repeat refine s1 ?_
      refine j_fin rfl (.cons (rv_tmp rfl) .nil) () (by rfl) (by trivial)
theorem U8_c (p : Nat) (s : Option (List Nat)) (hs : ∀ bs, s = some bs → ∀ x ∈ bs, x < 256) (Φ : Base) : Sl.Fn Tryz.prog Φ F.octet_Reader_U8 [.pointer (some ⟨p, 0, none⟩)] [rdr p s] (fun _ : Unit => True) (fun _ => .int .u8 ((rdU 1 s).1 : Int)) (fun _ => [rdr p (rdU 1 s).2]) := by
  refine fn_of rfl rfl (fun F => ?_)
  dsimp only [argEnv, List.cons_append, List.nil_append, Nat.zero_add, Nat.reduceAdd]
  repeat refine s1 ?_
  refine r_call rfl (blt_some rfl) rfl (next8_c p s hs Φ) ?_
  intro _ _; dsimp only [bnd, List.cons_append, List.nil_append]
  repeat refine s1 ?_
  refine j_fin rfl (.cons (rv_tmp rfl) .nil) () (by rfl) (by trivial)
theorem getN32_c (Φ : Base) : Sl.Fn Tryz.prog Φ F.octet_Get_uint32 [.slice none 0 0, i64 0] [] (fun _ : Unit => True) (fun _ => .tuple #[.int .u32 0, i64 10]) (fun _ => []) := by
  refine fn_of rfl rfl (fun F => ?_)
  dsimp only [argEnv, List.cons_append, List.nil_append, Nat.zero_add, Nat.reduceAdd]
  repeat refine s1 ?_
  refine r_call rfl (blt_some rfl) rfl (width32_c Φ) ?_
  intro _ _; dsimp only [bnd, List.cons_append, List.nil_append]
  repeat refine s1 ?_
  refine r_cmpF rfl rfl rfl (by decide) rfl ?_
  repeat refine s1 ?_
  refine r_cmpF rfl rfl rfl (by decide) rfl ?_
  repeat refine s1 ?_
  refine r_subN (m := 0) (n := 0) rfl rfl (by decide) (by decide) rfl ?_
  repeat refine s1 ?_
  refine r_cmpT rfl rfl rfl (by decide) rfl ?_
  repeat refine s1 ?_
  refine j_fin rfl (.cons (rv_tmp rfl) (.cons (rv_tmp rfl) .nil)) () (by rfl) (by trivial)
theorem next32_c (p : Nat) (s : Option (List Nat)) (hs : ∀ bs, s = some bs → ∀ x ∈ bs, x < 256) (Φ : Base) : Sl.Fn Tryz.prog Φ F.octet_next_uint32 [.pointer (some ⟨p, 0, none⟩)] [rdr p s] (fun _ : Unit => True) (fun _ => .int .u32 ((rdU 4 s).1 : Int)) (fun _ => [rdr p (rdU 4 s).2]) := by
  refine fn_of rfl rfl (fun F => ?_)
  dsimp only [argEnv, List.cons_append, List.nil_append, Nat.zero_add, Nat.reduceAdd]
  repeat refine s1 ?_
  refine r_call rfl (blt_some rfl) rfl (width32_c Φ) ?_
  intro _ _; dsimp only [bnd, List.cons_append, List.nil_append]
  cases s with
  | none =>
    have e : rdU 4 none = (0, none) := rfl
    rw [e]
    refine r_call rfl (blt_some rfl) rfl (bytesN_c p 4 Φ) ?_
    intro _ _; dsimp only [bnd, List.cons_append, List.nil_append]
    refine r_call rfl (blt_some rfl) rfl (getN32_c Φ) ?_
    intro _ _; dsimp only [bnd, List.cons_append, List.nil_append]
    repeat refine s1 ?_
    refine j_fin rfl (.cons (rv_tmp rfl) .nil) () (by rfl) (by trivial)
  | some bs =>
    by_cases h : 4 ≤ bs.length
    · have e : rdU 4 (some bs) = (num (bs.take 4), some (bs.drop 4)) := by simp only [rdU]; rw [if_pos h]
      rw [e]
      refine r_call rfl (blt_some rfl) rfl (bytes_c p 4 bs h Φ) ?_
      intro a _
      dsimp only [bnd, List.cons_append, List.nil_append]
      refine r_call rfl (blt_some rfl) rfl (get32_c a 4 (bs.take 4) (by simp; omega) (fun x hx => hs bs rfl x (List.mem_of_mem_take hx)) Φ) ?_
      intro _ _; dsimp only [bnd, List.cons_append, List.nil_append]
      repeat refine s1 ?_
      refine j_fin rfl (.cons (rv_tmp rfl) .nil) () (by rfl) (by trivial)
    · have e : rdU 4 (some bs) = (0, none) := by simp only [rdU]; rw [if_neg h]
      rw [e]
      refine r_call rfl (blt_some rfl) rfl (bytesS_c p 4 bs (by omega) Φ) ?_
      intro _ _; dsimp only [bnd, List.cons_append, List.nil_append]
      refine r_call rfl (blt_some rfl) rfl (getN32_c Φ) ?_
      intro _ _; dsimp only [bnd, List.cons_append, List.nil_append]
      repeat refine s1 ?_
      refine j_fin rfl (.cons (rv_tmp rfl) .nil) () (by rfl) (by trivial)
theorem U32_c (p : Nat) (s : Option (List Nat)) (hs : ∀ bs, s = some bs → ∀ x ∈ bs, x < 256) (Φ : Base) : Sl.Fn Tryz.prog Φ F.octet_Reader_U32 [.pointer (some ⟨p, 0, none⟩)] [rdr p s] (fun _ : Unit => True) (fun _ => .int .u32 ((rdU 4 s).1 : Int)) (fun _ => [rdr p (rdU 4 s).2]) := by
  refine fn_of rfl rfl (fun F => ?_)
  dsimp only [argEnv, List.cons_append, List.nil_append, Nat.zero_add, Nat.reduceAdd]
  repeat refine s1 ?_
  refine r_call rfl (blt_some rfl) rfl (next32_c p s hs Φ) ?_
  intro _ _; dsimp only [bnd, List.cons_append, List.nil_append]
  repeat refine s1 ?_
  refine j_fin rfl (.cons (rv_tmp rfl) .nil) () (by rfl) (by trivial)
end Go.Proofs.YtcnpkmdooekmgaaGreatDoor
namespace Go.Proofs.YtcnpkmdooekmgaaGreatDoor
open Go Sl
attribute [local irreducible] cw sw J Exit.then Exit.inBlock Exit.noGoto bodyPost swG swL permL
abbrev ptr (b : Nat) : Value := .pointer (some ⟨b, 0, none⟩)
abbrev mapI (r : Nat) (f : Int → Option Int) : Assn := mapF (Value.int .i64) (Value.int .i64) (isInt .i64) r f
abbrev w64 (x : Nat) : Value := .int .u64 (x : Int)
structure RowR (n : Nat) (ws : List Nat) (m : Int → Option Int) (f : Nat → Nat) : Prop where
  pos : 0 < n
  big : n ≤ 65536
  len : ws.length = (n + 63) / 64
  lt : ∀ x ∈ ws, x < 18446744073709551616
  bit : ∀ i, i < n → ∀ x, ws[i / 64]? = some x → x.testBit (i % 64) = decide (0 < f i)
  more : ∀ i, i < n → m (i : Int) = if 2 ≤ f i then some ((f i : Int) - 1) else none
  top : ∀ i, f i ≤ 2147483647
theorem RowR.at {n : Nat} {ws : List Nat} {m : Int → Option Int} {f : Nat → Nat} (h : RowR n ws m f) {i : Nat} (hi : i < n) : ∃ x, ws[i / 64]? = some x ∧ x < 18446744073709551616 := by
  have : i / 64 < ws.length := by rw [h.len]; omega
  exact ⟨ws[i / 64], List.getElem?_eq_getElem this, h.lt _ (List.getElem_mem this)⟩
abbrev rowc (n wb mr : Nat) (tk : Int) : List Value := [i64 n, .slice (some ⟨wb, 0, none⟩) ((n + 63) / 64) ((n + 63) / 64), .map (some mr), .int .i64 tk]
/-- a row of n places, of which i is held f i times. -/
abbrev rowB (p n : Nat) (x : Nat × Nat × Int × List Nat × (Int → Option Int)) : List Assn :=
  [pt p (.cells (rowc n x.1 x.2.1 x.2.2.1).toArray T.bits_Row (0, 0)), pt x.1 (.cells (x.2.2.2.1.map w64).toArray T.uint64 (0, 0)), mapI x.2.1 x.2.2.2.2]
def row (p n : Nat) (f : Nat → Nat) : Assn := box (fun x : Nat × Nat × Int × List Nat × (Int → Option Int) => RowR n x.2.2.2.1 x.2.2.2.2 f) (rowB p n)
theorem j_row {X : Cx} {e : Env} {L : List Assn} {G : Act → World → Prop} {p n : Nat} {f : Nat → Nat} (h : ∀ (wb mr : Nat) (tk : Int) (ws : List Nat) (m : Int → Option Int), RowR n ws m f →
    J X e (pt p (.cells (rowc n wb mr tk).toArray T.bits_Row (0, 0)) :: pt wb (.cells (ws.map w64).toArray T.uint64 (0, 0)) :: mapI mr m :: L) G) : J X e (row p n f :: L) G := j_open fun _ hr => h _ _ _ _ _ hr
theorem Ent.row {p n wb mr : Nat} {tk : Int} {ws : List Nat} {m : Int → Option Int} {f : Nat → Nat} {L : List Assn} (hr : RowR n ws m f) :
    Ent (pt p (.cells (rowc n wb mr tk).toArray T.bits_Row (0, 0)) :: pt wb (.cells (ws.map w64).toArray T.uint64 (0, 0)) :: mapI mr m :: L) (Go.Proofs.YtcnpkmdooekmgaaGreatDoor.row p n f :: L) := Ent.shut (Q := fun x : Nat × Nat × Int × List Nat × (Int → Option Int) => RowR n x.2.2.2.1 x.2.2.2.2 f) (B := rowB p n) (wb, mr, tk, ws, m) hr
theorem row_size (p n : Nat) (f : Nat → Nat) (Φ : Base) : Sl.Fn Tryz.prog Φ F.bits_Row_Size [ptr p] [row p n f] (fun _ : Unit => True) (fun _ => i64 n) (fun _ => [row p n f]) := by
  refine fo fun F => j_row fun wb mr tk ws m hr => ?_
  repeat refine s1 ?_
  refine j_ent (Ent.row hr) ?_
  exact f1 ()
theorem row_there (p n : Nat) (f : Nat → Nat) (i : Int) (Φ : Base) : Sl.Fn Tryz.prog Φ F.bits_Row_there [ptr p, .int .i64 i] [row p n f] (fun _ : Unit => True) (fun _ => i64 (if i < 0 ∨ n ≤ i then 1 else 0)) (fun _ => [row p n f]) := by
  refine fo fun F => ?_
  repeat refine s1 ?_
  refine cl (row_size p n f Φ) (j_row fun wb mr tk ws m hr => ?_)
  have hp := hr.pos
  repeat' (first | refine s2 ?_ | (refine k_bin ?_; refine r_icmp rfl rfl rfl rfl ?_) | (refine g_mark ?_; first | refine gg_splitD rfl rfl (fun _ => ?_) (fun _ => ?_) | refine gg_splitN rfl rfl (fun _ => ?_) (fun _ => ?_) | refine gg_split rfl rfl (fun _ => ?_) (fun _ => ?_)) | (refine k_cond ?_; first | refine t_condS rfl (fun _ => ?_) (fun _ => ?_) | refine t_condSN rfl (fun _ => ?_) (fun _ => ?_) | refine t_condSB rfl (fun _ => ?_) (fun _ => ?_)))
  · omega
  · refine j_ent (Ent.row hr) ?_
    rw [if_pos (by omega)]
    exact f1 ()
  · refine j_ent (Ent.row hr) ?_
    rw [if_pos (by omega)]
    exact f1 ()
  · refine j_ent (Ent.row hr) ?_
    rw [if_neg (by omega)]
    exact f1 ()
theorem tb_shr {x k : Nat} (hx : x < 18446744073709551616) : Go.bits .and .u64 ((x : Int) / 2 ^ ((k : Nat) : Int).toNat) 1 = if x.testBit k then 1 else 0 := by
  have h1 : (x : Int) / 2 ^ ((k : Nat) : Int).toNat = ((x / 2 ^ k : Nat) : Int) := by simp
  have h2 := and64 (y := 1) (Nat.lt_of_le_of_lt (Nat.div_le_self x (2 ^ k)) hx) (by omega)
  rw [h1, show (1 : Int) = ((1 : Nat) : Int) from rfl, h2, Nat.and_one_is_mod, Nat.testBit_eq_decide_div_mod_eq]
  have := Nat.mod_two_eq_zero_or_one (x / 2 ^ k)
  split <;> simp_all
theorem row_times (p n : Nat) (f : Nat → Nat) (i : Nat) (hi : i < n) (Φ : Base) : Sl.Fn Tryz.prog Φ F.bits_Row_Times [ptr p, i64 i] [row p n f] (fun _ : Unit => True) (fun _ => i64 (f i)) (fun _ => [row p n f]) := by
  refine fo fun F => ?_
  repeat refine s1 ?_
  refine cl (row_there p n f i Φ) (j_row fun wb mr tk ws m hr => ?_)
  rw [if_neg (by omega)]
  obtain ⟨x, hx, hlt⟩ := hr.at hi
  have hb := hr.bit i hi x hx
  repeat refine s2 ?_
  refine r_quoN (m := i) (n := 64) rfl rfl (by omega) (by rw [i64_nat (by have := hr.big; omega)]) rfl ?_
  repeat refine s1 ?_
  refine ix1 rfl rfl (by omega) ?_
  repeat refine s1 ?_
  refine ld (v := w64 x) rfl (by simp [hx]) ?_
  repeat refine s1 ?_
  refine r_remN (m := i) (n := 64) rfl rfl (by omega) rfl ?_
  repeat refine s1 ?_
  refine r_shr rfl rfl (by omega) (by simp [IntKind.bits]; omega) rfl ?_
  repeat refine s1 ?_
  refine r_iop rfl rfl rfl rfl ?_
  rw [tb_shr hlt, hb]
  repeat' (first | refine s2 ?_ | (refine k_bin ?_; refine r_icmp rfl rfl rfl rfl ?_) | (refine g_mark ?_; first | refine gg_splitD rfl rfl (fun _ => ?_) (fun _ => ?_) | refine gg_splitN rfl rfl (fun _ => ?_) (fun _ => ?_) | refine gg_split rfl rfl (fun _ => ?_) (fun _ => ?_)) | (refine k_cond ?_; first | refine t_condS rfl (fun _ => ?_) (fun _ => ?_) | refine t_condSN rfl (fun _ => ?_) (fun _ => ?_) | refine t_condSB rfl (fun _ => ?_) (fun _ => ?_)))
  · rename_i h
    refine j_ent (Ent.row hr) ?_
    have : f i = 0 := by
      apply Nat.eq_zero_of_not_pos; intro h0
      simp [h0] at h
    rw [this]
    exact f1 ()
  · rename_i h
    have h0 : 0 < f i := by
      apply Nat.pos_of_ne_zero; intro h0
      simp [h0] at h
    refine mg (key := (i : Int)) ?_
    rw [hr.more i hi]
    have hv : (((if 2 ≤ f i then some ((f i : Int) - 1) else none).map (Value.int .i64)).getD (.int .i64 0)) = .int .i64 ((f i : Int) - 1) := by
      split
      · rfl
      · rw [show f i = 1 by omega]; rfl
    rw [hv]
    refine r_addI rfl rfl (by have := hr.top i; omega) rfl ?_
    repeat refine s1 ?_
    refine j_heads (rowB p n (wb, mr, tk, ws, m)) ?_
    refine j_ent (Ent.row (L := F) hr) ?_
    rw [show (1 + ((f i : Int) - 1)) = (f i : Int) by omega]
    exact f1 ()
theorem RowR.put {n : Nat} {ws : List Nat} {m m' : Int → Option Int} {f : Nat → Nat} (h : RowR n ws m f) {i c x x' : Nat} (hi : i < n) (hc : c ≤ 2147483647) (hx : ws[i / 64]? = some x) (hx' : x' < 18446744073709551616)
    (hb : x'.testBit (i % 64) = decide (0 < c) ∧ ∀ k, k ≠ i % 64 → x'.testBit k = x.testBit k) (hm : m' (i : Int) = if 2 ≤ c then some ((c : Int) - 1) else none) (hm' : ∀ j : Int, j ≠ i → m' j = m j) :
    RowR n (ws.set (i / 64) x') m' (fun j => if j = i then c else f j) := by
  refine ⟨h.pos, h.big, by simp [h.len], fun y hy => ?_, fun j hj y hy => ?_, fun j hj => ?_, fun j => by
    split
    · exact hc
    · exact h.top j⟩
  · rcases List.mem_or_eq_of_mem_set hy with hy | rfl
    · exact h.lt y hy
    · exact hx'
  · by_cases hq : j / 64 = i / 64
    · have hl : i / 64 < ws.length := (List.getElem?_eq_some_iff.1 hx).1
      rw [hq, List.getElem?_set_self hl] at hy
      obtain rfl := Option.some.inj hy
      by_cases hji : j = i
      · subst hji; rw [if_pos rfl]; exact hb.1
      · rw [if_neg hji, hb.2 _ (by omega)]
        exact h.bit j hj x (by rw [hq]; exact hx)
    · rw [List.getElem?_set_ne (Ne.symm hq)] at hy
      rw [if_neg (fun e => hq (by rw [e]))]
      exact h.bit j hj y hy
  · by_cases hji : j = i
    · subst hji; rw [if_pos rfl]; exact hm
    · rw [if_neg hji, hm' _ (by omega)]; exact h.more j hj
theorem RowR.put' {n : Nat} {ws : List Nat} {m m' : Int → Option Int} {f : Nat → Nat} (h : RowR n ws m f) {i c : Nat} (hi : i < n) (hc : c ≤ 2147483647) (hc0 : 0 < c) (h0 : 0 < f i)
    (hm : m' (i : Int) = if 2 ≤ c then some ((c : Int) - 1) else none) (hm' : ∀ j : Int, j ≠ i → m' j = m j) : RowR n ws m' (fun j => if j = i then c else f j) := by
  obtain ⟨x, hx, hlt⟩ := h.at hi
  have := h.put (x' := x) hi hc hx hlt ⟨by rw [h.bit i hi x hx]; simp [h0, hc0], fun _ _ => rfl⟩ hm hm'
  obtain ⟨hl, rfl⟩ := List.getElem?_eq_some_iff.1 hx
  rwa [List.set_getElem_self] at this
def put (f : Nat → Nat) (i c : Nat) : Nat → Nat := fun j => if j = i then c else f j
theorem row_hold (p n : Nat) (f : Nat → Nat) (i : Nat) (hi : i < n) (hf : f i < 2147483647) (Φ : Base) : Sl.Fn Tryz.prog Φ F.bits_Row_Hold [ptr p, i64 i] [row p n f] (fun _ : Unit => True) (fun _ => i64 0) (fun _ => [row p n (put f i (f i + 1))]) := by
  refine fo fun F => ?_
  repeat refine s1 ?_
  refine cl (row_there p n f i Φ) ?_
  rw [if_neg (by omega)]
  repeat refine s2 ?_
  refine cl (row_times p n f i hi Φ) ?_
  repeat' (first | refine s2 ?_ | (refine k_bin ?_; refine r_icmp rfl rfl rfl rfl ?_) | (refine g_mark ?_; first | refine gg_splitD rfl rfl (fun _ => ?_) (fun _ => ?_) | refine gg_splitN rfl rfl (fun _ => ?_) (fun _ => ?_) | refine gg_split rfl rfl (fun _ => ?_) (fun _ => ?_)) | (refine k_cond ?_; first | refine t_condS rfl (fun _ => ?_) (fun _ => ?_) | refine t_condSN rfl (fun _ => ?_) (fun _ => ?_) | refine t_condSB rfl (fun _ => ?_) (fun _ => ?_)))
  · omega
  · rename_i _ h
    have h0 : f i = 0 := by omega
    refine j_row fun wb mr tk ws m hr => ?_
    obtain ⟨x, hx, hlt⟩ := hr.at hi
    have hl : i / 64 < ws.length := (List.getElem?_eq_some_iff.1 hx).1
    have h2 : (2 : Nat) ^ (i % 64) < 18446744073709551616 := Nat.pow_lt_pow_right (by omega : 1 < 2) (by omega : i % 64 < 64)
    repeat refine s1 ?_
    refine r_quoN (m := i) (n := 64) rfl rfl (by omega) (by rw [i64_nat (by have := hr.big; omega)]) rfl ?_
    refine ix1 rfl rfl (by omega) ?_
    refine ld (v := w64 x) rfl (by simp [hx]) ?_
    repeat refine s1 ?_
    refine r_remN (m := i) (n := 64) rfl rfl (by omega) rfl ?_
    refine r_shl rfl rfl (by omega) rfl ?_
    rw [shl64 (by omega)]
    refine r_iop rfl rfl rfl rfl ?_
    rw [or64 hlt h2]
    refine ix1 rfl rfl (by omega) ?_
    refine so rfl rfl ?_
    repeat refine s1 ?_
    refine r_iop rfl rfl rfl rfl ?_
    repeat refine s1 ?_
    refine so rfl rfl ?_
    repeat refine s1 ?_
    rw [← List.map_set]
    refine j_ent (Ent.row (f := put f i (f i + 1)) (hr.put hi (by omega) hx (Nat.or_lt_two_pow (n := 64) hlt h2) ⟨?_, fun k hk => ?_⟩ (by rw [hr.more i hi, h0]; rfl) (fun _ _ => rfl))) ?_
    · rw [Nat.testBit_or, Nat.testBit_two_pow]; simp
    · rw [Nat.testBit_or, Nat.testBit_two_pow, decide_eq_false (Ne.symm hk)]; simp
    exact f1 ()
  · rename_i _ h
    refine j_row fun wb mr tk ws m hr => ?_
    repeat refine s1 ?_
    refine mg (key := (i : Int)) ?_
    rw [hr.more i hi]
    have hv : (((if 2 ≤ f i then some ((f i : Int) - 1) else none).map (Value.int .i64)).getD (.int .i64 0)) = .int .i64 ((f i : Int) - 1) := by
      split
      · rfl
      · rw [show f i = 1 by omega]; rfl
    rw [hv]
    refine r_addI rfl rfl (by omega) rfl ?_
    refine mu (key := (i : Int)) (v := (f i : Int) - 1 + 1) ?_
    repeat refine s1 ?_
    refine j_heads (rowB p n (wb, mr, tk, ws, upd m i (some ((f i : Int) - 1 + 1)))) ?_
    refine j_ent (Ent.row (L := F) (f := put f i (f i + 1)) (hr.put' hi (by omega) (by omega) (by omega) ?_ (fun j hj => by simp only [upd]; rw [if_neg hj]))) ?_
    · simp only [upd, if_true]; rw [if_pos (by omega)]; congr 1; omega
    exact f1 ()
theorem row_drop (p n : Nat) (f : Nat → Nat) (i : Nat) (hi : i < n) (h0 : 0 < f i) (Φ : Base) : Sl.Fn Tryz.prog Φ F.bits_Row_Drop [ptr p, i64 i] [row p n f] (fun _ : Unit => True) (fun _ => .tuple #[.bool (decide (f i = 1)), i64 0]) (fun _ => [row p n (put f i (f i - 1))]) := by
  refine fo fun F => ?_
  repeat refine s1 ?_
  refine cl (row_there p n f i Φ) ?_
  rw [if_neg (by omega)]
  repeat refine s2 ?_
  refine cl (row_times p n f i hi Φ) ?_
  repeat' (first | refine s2 ?_ | (refine k_bin ?_; refine r_icmp rfl rfl rfl rfl ?_) | (refine g_mark ?_; first | refine gg_splitD rfl rfl (fun _ => ?_) (fun _ => ?_) | refine gg_splitN rfl rfl (fun _ => ?_) (fun _ => ?_) | refine gg_split rfl rfl (fun _ => ?_) (fun _ => ?_)) | (refine k_cond ?_; first | refine t_condS rfl (fun _ => ?_) (fun _ => ?_) | refine t_condSN rfl (fun _ => ?_) (fun _ => ?_) | refine t_condSB rfl (fun _ => ?_) (fun _ => ?_)))
  · omega
  · rename_i _ h
    have h1 : f i = 1 := by omega
    rw [h1]
    refine j_row fun wb mr tk ws m hr => ?_
    obtain ⟨x, hx, hlt⟩ := hr.at hi
    have hl : i / 64 < ws.length := (List.getElem?_eq_some_iff.1 hx).1
    have h2 : (2 : Nat) ^ (i % 64) < 18446744073709551616 := Nat.pow_lt_pow_right (by omega : 1 < 2) (by omega : i % 64 < 64)
    repeat refine s1 ?_
    refine r_quoN (m := i) (n := 64) rfl rfl (by omega) (by rw [i64_nat (by have := hr.big; omega)]) rfl ?_
    refine ix1 rfl rfl (by omega) ?_
    refine ld (v := w64 x) rfl (by simp [hx]) ?_
    repeat refine s1 ?_
    refine r_remN (m := i) (n := 64) rfl rfl (by omega) rfl ?_
    refine r_shl rfl rfl (by omega) rfl ?_
    rw [shl64 (by omega)]
    refine r_iop rfl rfl rfl rfl ?_
    rw [andn64 hlt h2]
    refine ix1 rfl rfl (by omega) ?_
    refine so rfl rfl ?_
    repeat refine s1 ?_
    refine r_iop rfl rfl rfl rfl ?_
    repeat refine s1 ?_
    refine so rfl rfl ?_
    repeat refine s1 ?_
    rw [← List.map_set]
    refine j_ent (Ent.row (f := put f i (1 - 1)) (hr.put hi (by omega) hx (Nat.lt_of_le_of_lt Nat.and_le_left hlt) ⟨?_, fun k hk => ?_⟩ (by rw [hr.more i hi, h1]; rfl) (fun _ _ => rfl))) ?_
    · rw [tb_andn hlt h2, Nat.testBit_two_pow]; simp
    · rw [tb_andn hlt h2, Nat.testBit_two_pow, decide_eq_false (Ne.symm hk)]; simp
    exact f2 ()
  · rename_i _ _ h
    have h1 : f i = 2 := by omega
    rw [h1]
    refine j_row fun wb mr tk ws m hr => ?_
    repeat refine s1 ?_
    refine md (key := (i : Int)) ?_
    repeat refine s1 ?_
    refine j_heads (rowB p n (wb, mr, tk, ws, upd m i none)) ?_
    refine j_ent (Ent.row (L := F) (f := put f i (2 - 1)) (hr.put' hi (by omega) (by omega) (by omega) ?_ (fun j hj => by simp only [upd]; rw [if_neg hj]))) ?_
    · simp only [upd, if_true]; rfl
    exact f2 ()
  · rename_i ha hb hc
    have h1 : ¬ f i = 1 := by omega
    rw [decide_eq_false h1]
    refine j_row fun wb mr tk ws m hr => ?_
    have := hr.top i
    repeat refine s1 ?_
    refine mg (key := (i : Int)) ?_
    rw [hr.more i hi, if_pos (by omega)]
    refine r_subI (m := (f i : Int) - 1) (n := 1) rfl rfl (by omega) rfl ?_
    refine mu (key := (i : Int)) (v := (f i : Int) - 1 - 1) ?_
    repeat refine s1 ?_
    refine j_heads (rowB p n (wb, mr, tk, ws, upd m i (some ((f i : Int) - 1 - 1)))) ?_
    refine j_ent (Ent.row (L := F) (f := put f i (f i - 1)) (hr.put' hi (by omega) (by omega) (by omega) ?_ (fun j hj => by simp only [upd]; rw [if_neg hj]))) ?_
    · simp only [upd, if_true]; rw [if_pos (by omega)]; congr 1; omega
    exact f2 ()
/-- the table of de Bruijn's places stands where it was laid. -/
def Tab (Φ : Base) : Prop := ∃ U fr, Φ.im 0 = some (.cells (Lib.deBruijn64tab.map u8).toArray U fr)
theorem tz1 {v : Nat} (hv : v < 18446744073709551616) (h0 : v ≠ 0) : IntKind.u64.wrap (0 - (v : Int)) = ((18446744073709551616 - v : Nat) : Int) := by
  simp only [IntKind.wrap, IntKind.signed, IntKind.bits]; simp; omega
theorem tz2 {a : Nat} : IntKind.u64.wrap ((a : Int) * 285870213051353865) = ((a * 285870213051353865 % 18446744073709551616 : Nat) : Int) := by
  simp [IntKind.wrap, IntKind.signed, IntKind.bits]
theorem tz3 {a : Nat} : ((a : Nat) : Int) / 2 ^ (58 : Int).toNat = ((a / 288230376151711744 : Nat) : Int) := by simp
theorem tz5 : ∀ c, c < 64 → 2 ^ c * 285870213051353865 % 18446744073709551616 / 288230376151711744 < 64 ∧ Lib.deBruijn64tab[2 ^ c * 285870213051353865 % 18446744073709551616 / 288230376151711744]? = some c := by decide +kernel
theorem tz4 {v : Nat} (h0 : v ≠ 0) (hv : v < 18446744073709551616) : ∃ q, q < 64 ∧ (v &&& (18446744073709551616 - v)) * 285870213051353865 % 18446744073709551616 / 288230376151711744 = q ∧ Lib.deBruijn64tab[q]? = some (Lib.ctz 64 v) ∧ Lib.ctz 64 v < 64 := by
  have h := Lib.lowest_bit 64 v h0 hv
  have e : (2 : Nat) ^ 64 = 18446744073709551616 := by decide
  rw [e] at h
  rw [h.1]
  exact ⟨_, (tz5 _ h.2).1, rfl, (tz5 _ h.2).2, h.2⟩
theorem tz_c (v : Nat) (h0 : v ≠ 0) (hv : v < 18446744073709551616) (Φ : Base) (hT : Tab Φ) : Sl.Fn Tryz.prog Φ F.math_bits_TrailingZeros64 [w64 v] [] (fun _ : Unit => True) (fun _ => i64 (Lib.ctz 64 v)) (fun _ => []) := by
  refine fo fun F => ?_
  obtain ⟨U, fr, hT⟩ := hT
  refine j_base hT ?_
  obtain ⟨q, hq, hq1, hq2, hq3⟩ := tz4 h0 hv
  repeat' (first | refine s2 ?_ | (refine k_bin ?_; refine r_icmp rfl rfl rfl rfl ?_) | (refine g_mark ?_; first | refine gg_splitD rfl rfl (fun _ => ?_) (fun _ => ?_) | refine gg_splitN rfl rfl (fun _ => ?_) (fun _ => ?_) | refine gg_split rfl rfl (fun _ => ?_) (fun _ => ?_)) | (refine k_cond ?_; first | refine t_condS rfl (fun _ => ?_) (fun _ => ?_) | refine t_condSN rfl (fun _ => ?_) (fun _ => ?_) | refine t_condSB rfl (fun _ => ?_) (fun _ => ?_)))
  · omega
  refine r_neg rfl rfl ?_
  rw [tz1 hv h0]
  refine r_iop rfl rfl rfl rfl ?_
  rw [and64 hv (by omega)]
  refine r_iop rfl rfl rfl rfl ?_
  rw [tz2]
  refine r_shr rfl rfl (by omega) (by simp [IntKind.bits]) rfl ?_
  rw [tz3, hq1]
  refine r_idxA rfl rfl (by omega) (by omega) rfl ?_
  refine ld (v := u8 (Lib.ctz 64 v)) rfl (by simp [hq2]) ?_
  generalize Lib.ctz 64 v = c at *
  repeat refine s1 ?_
  rw [i64_nat (by omega)]
  exact f1 ()
theorem ctz_spec {v : Nat} (h0 : v ≠ 0) (hv : v < 18446744073709551616) : Lib.ctz 64 v < 64 ∧ v.testBit (Lib.ctz 64 v) = true ∧ ∀ j, j < Lib.ctz 64 v → v.testBit j = false := by
  obtain ⟨m, h1, h2⟩ := Lib.ctzFrom_spec 64 v (by omega) hv
  have e : Lib.ctz 64 v = Lib.ctzFrom 64 v := by simp [Lib.ctz, h0]
  rw [e]
  refine ⟨h2, ?_, fun j hj => ?_⟩
  · rw [Nat.testBit_eq_decide_div_mod_eq]
    generalize Lib.ctzFrom 64 v = c at *
    rw [h1, Nat.mul_div_cancel_left _ (Nat.pow_pos (by omega))]
    simp
  · generalize Lib.ctzFrom 64 v = c at *
    rw [h1, Nat.testBit_two_pow_mul]
    simp; omega
/-- the first free place from a place on. -/
def FreeQ (n : Nat) (f : Nat → Nat) (fr : Nat) : Option Nat → Prop
  | some i => fr ≤ i ∧ i < n ∧ f i = 0 ∧ ∀ j, fr ≤ j → j < i → 0 < f j
  | none => ∀ j, fr ≤ j → j < n → 0 < f j
/-- a word's free places, from a place on. -/
def wfree (ws : List Nat) (fr w : Nat) : Nat := let v := 18446744073709551615 - ws.getD w 0; if w = fr / 64 then v &&& (18446744073709551616 - 2 ^ (fr % 64)) else v
theorem tb_ones {k : Nat} (h : k < 64) (i : Nat) : (18446744073709551616 - 2 ^ k).testBit i = (decide (i < 64) && decide (k ≤ i)) := by
  have h2 : (2 : Nat) ^ k < 18446744073709551616 := Nat.pow_lt_pow_right (by omega : 1 < 2) h
  have h3 : 0 < 2 ^ k := Nat.pow_pos (by omega)
  have := tb_cpl (x := 2 ^ k - 1) (by omega) i
  rw [show 18446744073709551615 - (2 ^ k - 1) = 18446744073709551616 - 2 ^ k by omega] at this
  rw [this, Nat.testBit_two_pow_sub_one]
  by_cases h : i < k <;> simp [h] <;> omega
theorem wfree_lt {ws : List Nat} {fr w : Nat} : wfree ws fr w < 18446744073709551616 := by
  unfold wfree
  dsimp only
  split
  · exact Nat.lt_of_le_of_lt Nat.and_le_left (by omega)
  · omega
theorem wfree_bit {n : Nat} {ws : List Nat} {m : Int → Option Int} {f : Nat → Nat} (h : RowR n ws m f) {fr w k : Nat} (hw : w < ws.length) (hfw : fr / 64 ≤ w) (hk : k < 64) (hn : w * 64 + k < n) : (wfree ws fr w).testBit k = (decide (f (w * 64 + k) = 0) && decide (fr ≤ w * 64 + k)) := by
  have hx : ws[w]? = some ws[w] := List.getElem?_eq_getElem hw
  have hlt := h.lt _ (List.getElem_mem hw)
  have hb := h.bit (w * 64 + k) hn ws[w] (by rw [show (w * 64 + k) / 64 = w by omega]; exact hx)
  rw [show (w * 64 + k) % 64 = k by omega] at hb
  have e : ws.getD w 0 = ws[w] := by rw [List.getD_eq_getElem?_getD, hx]; rfl
  have h0 : (18446744073709551615 - ws[w]).testBit k = decide (f (w * 64 + k) = 0) := by
    rw [tb_cpl hlt, hb, decide_eq_true hk]
    by_cases h0 : f (w * 64 + k) = 0 <;> simp [h0] <;> omega
  unfold wfree
  dsimp only
  rw [e]
  split
  · rename_i he
    rw [Nat.testBit_and, h0, tb_ones (by omega), decide_eq_true hk, Bool.true_and]
    congr 1
    rw [decide_eq_decide]; omega
  · rw [h0, decide_eq_true (show fr ≤ w * 64 + k by omega), Bool.and_true]
theorem free_next {n : Nat} {ws : List Nat} {m : Int → Option Int} {f : Nat → Nat} (h : RowR n ws m f) {fr w : Nat} (hw : w < ws.length) (hfw : fr / 64 ≤ w) (h3 : ∀ j, fr ≤ j → j / 64 < w → j < n → 0 < f j) (hv : wfree ws fr w = 0) : ∀ j, fr ≤ j → j / 64 < w + 1 → j < n → 0 < f j := fun j h4 h5 h6 => by
  by_cases hj : j / 64 < w
  · exact h3 j h4 hj h6
  · have := wfree_bit h (k := j % 64) hw hfw (by omega) (by omega)
    rw [hv, show w * 64 + j % 64 = j by omega, decide_eq_true h4] at this
    simp at this; omega
theorem free_hit {n : Nat} {ws : List Nat} {m : Int → Option Int} {f : Nat → Nat} (h : RowR n ws m f) {fr w : Nat} (hw : w < ws.length) (hfw : fr / 64 ≤ w) (h3 : ∀ j, fr ≤ j → j / 64 < w → j < n → 0 < f j) (hv : wfree ws fr w ≠ 0) :
    Lib.ctz 64 (wfree ws fr w) < 64 ∧ FreeQ n f fr (if n ≤ w * 64 + Lib.ctz 64 (wfree ws fr w) then none else some (w * 64 + Lib.ctz 64 (wfree ws fr w))) := by
  obtain ⟨c1, c2, c3⟩ := ctz_spec hv wfree_lt
  refine ⟨c1, ?_⟩
  have low : ∀ j, fr ≤ j → j < w * 64 + Lib.ctz 64 (wfree ws fr w) → j < n → 0 < f j := fun j h4 h5 h6 => by
    by_cases hj : j / 64 < w
    · exact h3 j h4 hj h6
    · have := wfree_bit h (k := j % 64) hw hfw (by omega) (by omega)
      rw [c3 _ (by omega), show w * 64 + j % 64 = j by omega, decide_eq_true h4] at this
      simp at this; omega
  split
  · rename_i hn
    exact fun j h4 h5 => low j h4 (by omega) h5
  · rename_i hn
    have := wfree_bit h (k := Lib.ctz 64 (wfree ws fr w)) hw hfw c1 (by omega)
    rw [c2] at this
    simp at this
    exact ⟨this.2, by omega, this.1, fun j h4 h5 => low j h4 h5 (by omega)⟩
theorem row_free (p n : Nat) (f : Nat → Nat) (fr : Nat) (hfr : fr ≤ 65536) (Φ : Base) (hT : Tab Φ) : Sl.Fn Tryz.prog Φ F.bits_Row_Free [ptr p, i64 fr] [row p n f] (FreeQ n f fr) (fun r => .tuple #[i64 (r.getD 0), .bool r.isSome]) (fun _ => [row p n f]) := by
  refine fo fun F => ?_
  repeat refine s1 ?_
  refine r_max rfl rfl rfl ?_
  rw [show max (fr : Int) 0 = (fr : Int) by omega]
  repeat refine s1 ?_
  refine cl (row_size p n f Φ) ?_
  repeat' (first | refine s2 ?_ | (refine k_bin ?_; refine r_icmp rfl rfl rfl rfl ?_) | (refine g_mark ?_; first | refine gg_splitD rfl rfl (fun _ => ?_) (fun _ => ?_) | refine gg_splitN rfl rfl (fun _ => ?_) (fun _ => ?_) | refine gg_split rfl rfl (fun _ => ?_) (fun _ => ?_)) | (refine k_cond ?_; first | refine t_condS rfl (fun _ => ?_) (fun _ => ?_) | refine t_condSN rfl (fun _ => ?_) (fun _ => ?_) | refine t_condSB rfl (fun _ => ?_) (fun _ => ?_)))
  · exact f2 none (hq := fun j h1 h2 => by omega)
  refine r_quoN (m := fr) (n := 64) rfl rfl (by omega) (by rw [i64_nat (by omega)]) rfl ?_
  refine j_row fun wb mr tk ws m hr => ?_
  have hlen := hr.len
  have hbig := hr.big
  repeat refine s1 ?_
  refine t_loop (σ := Nat) (fun w => [(7, i64 w), (6, .int .i64 (-1)), (0, ptr p), (1, i64 fr)]) (fun _ => rowB p n (wb, mr, tk, ws, m) ++ F) (fun w => fr / 64 ≤ w ∧ w ≤ ws.length ∧ ∀ j, fr ≤ j → j / 64 < w → j < n → 0 < f j) (fun w => ws.length - w)
    (fr / 64) ⟨Nat.le_refl _, by omega, fun j h1 h2 h3 => by omega⟩ ⟨rfl, rfl, rfl, rfl, trivial⟩ (Ent.refl _) ?_
  intro w hw
  obtain ⟨hw1, hw2, hw3⟩ := hw
  dsimp only [List.cons_append, List.nil_append]
  repeat refine s1 ?_
  refine r_icmp rfl rfl rfl rfl ?_
  repeat refine s1 ?_
  refine t_condS rfl (fun hlt0 => ?_) (fun hlt0 => ?_)
  · have hwl : w < ws.length := by omega
    have hx : ws[w]? = some ws[w] := List.getElem?_eq_getElem hwl
    have e : ws[w] = ws.getD w 0 := by rw [List.getD_eq_getElem?_getD, hx]; rfl
    have hlt := hr.lt _ (List.getElem_mem hwl)
    rw [e] at hx hlt
    have hv := free_next hr hwl hw1 hw3
    have hh := free_hit hr hwl hw1 hw3
    have hvl := wfree_lt (ws := ws) (fr := fr) (w := w)
    repeat refine s1 ?_
    refine ix1 rfl rfl (by omega) ?_
    refine ld (v := w64 (ws.getD w 0)) rfl (by rw [List.getElem?_map, hx]; rfl) ?_
    repeat refine s1 ?_
    refine r_cpl rfl rfl ?_
    rw [show (if IntKind.u64.signed = true then (-1 : Int) else IntKind.u64.max) = IntKind.u64.max from rfl, cpl64 hlt]
    repeat refine s1 ?_
    refine r_quoN (m := fr) (n := 64) rfl rfl (by omega) (by rw [i64_nat (by omega)]) rfl ?_
    repeat refine s1 ?_
    refine r_icmp rfl rfl rfl rfl ?_
    repeat refine s1 ?_
    refine t_meet (σ := Unit) (fun _ => [(8, w64 (wfree ws fr w)), (7, i64 w), (6, .int .i64 (-1)), (0, ptr p), (1, i64 fr)]) (fun _ => rowB p n (wb, mr, tk, ws, m) ++ F) (fun _ => True) ?_ ?_
    · refine t_condS rfl (fun hq => ?_) (fun hq => ?_)
      · repeat refine s1 ?_
        refine r_remN (m := fr) (n := 64) rfl rfl (by omega) rfl ?_
        refine r_shl rfl rfl (by omega) rfl ?_
        rw [ones64 (by omega)]
        refine r_iop rfl rfl rfl rfl ?_
        rw [and64 (by omega) (by have := Nat.two_pow_pos (fr % 64); omega), show (18446744073709551615 - ws.getD w 0) &&& (18446744073709551616 - 2 ^ (fr % 64)) = wfree ws fr w by unfold wfree; rw [if_pos (by omega)]]
        repeat refine s1 ?_
        exact j_meet () trivial ⟨rfl, rfl, rfl, rfl, rfl, trivial⟩ (Ent.refl _)
      · repeat refine s1 ?_
        rw [show 18446744073709551615 - ws.getD w 0 = wfree ws fr w by unfold wfree; rw [if_neg (by omega)]]
        exact j_meet () trivial ⟨rfl, rfl, rfl, rfl, rfl, trivial⟩ (Ent.refl _)
    · intro _ _
      dsimp only [List.cons_append, List.nil_append]
      generalize wfree ws fr w = v at *
      repeat' (first | refine s2 ?_ | (refine k_bin ?_; refine r_icmp rfl rfl rfl rfl ?_) | (refine g_mark ?_; first | refine gg_splitD rfl rfl (fun _ => ?_) (fun _ => ?_) | refine gg_splitN rfl rfl (fun _ => ?_) (fun _ => ?_) | refine gg_split rfl rfl (fun _ => ?_) (fun _ => ?_)) | (refine k_cond ?_; first | refine t_condS rfl (fun _ => ?_) (fun _ => ?_) | refine t_condSN rfl (fun _ => ?_) (fun _ => ?_) | refine t_condSB rfl (fun _ => ?_) (fun _ => ?_)))
      · rename_i h0
        have h0 : v ≠ 0 := by omega
        obtain ⟨c1, c2⟩ := hh h0
        refine r_mulN (m := w) (n := 64) rfl rfl (by omega) rfl ?_
        repeat refine s1 ?_
        refine cl (tz_c v h0 hvl Φ hT) ?_
        refine r_addN rfl rfl (by omega) rfl ?_
        repeat' (first | refine s2 ?_ | (refine k_bin ?_; refine r_icmp rfl rfl rfl rfl ?_) | (refine g_mark ?_; first | refine gg_splitD rfl rfl (fun _ => ?_) (fun _ => ?_) | refine gg_splitN rfl rfl (fun _ => ?_) (fun _ => ?_) | refine gg_split rfl rfl (fun _ => ?_) (fun _ => ?_)) | (refine k_cond ?_; first | refine t_condS rfl (fun _ => ?_) (fun _ => ?_) | refine t_condSN rfl (fun _ => ?_) (fun _ => ?_) | refine t_condSB rfl (fun _ => ?_) (fun _ => ?_)))
        · refine j_ent (Ent.row hr) ?_
          rw [if_pos (by omega)] at c2
          exact f2 none (hq := c2)
        · refine j_ent (Ent.row hr) ?_
          rw [if_neg (by omega)] at c2
          exact f2 (some _) (hq := c2)
      · rename_i h0
        exact j_again (w + 1) ⟨by omega, by omega, hv (by omega)⟩ (by omega) ⟨rfl, rfl, rfl, rfl, trivial⟩ (Ent.refl _)
  · repeat' (first | refine s2 ?_ | (refine k_bin ?_; refine r_icmp rfl rfl rfl rfl ?_) | (refine g_mark ?_; first | refine gg_splitD rfl rfl (fun _ => ?_) (fun _ => ?_) | refine gg_splitN rfl rfl (fun _ => ?_) (fun _ => ?_) | refine gg_split rfl rfl (fun _ => ?_) (fun _ => ?_)) | (refine k_cond ?_; first | refine t_condS rfl (fun _ => ?_) (fun _ => ?_) | refine t_condSN rfl (fun _ => ?_) (fun _ => ?_) | refine t_condSB rfl (fun _ => ?_) (fun _ => ?_)))
    refine j_ent (Ent.row hr) ?_
    exact f2 none (hq := fun j h1 h2 => hw3 j h1 (by omega) h2)
theorem row_new (n : Nat) (h1 : 1 ≤ n) (h2 : n ≤ 65536) (Φ : Base) : Sl.Fn Tryz.prog Φ F.bits_New [i64 n] [] (fun _ : Nat => True) (fun p => .tuple #[ptr p, i64 0]) (fun p => [row p n (fun _ => 0)]) := by
  refine fo fun F => ?_
  repeat' (first | refine s2 ?_ | (refine k_bin ?_; refine r_icmp rfl rfl rfl rfl ?_) | (refine g_mark ?_; first | refine gg_splitD rfl rfl (fun _ => ?_) (fun _ => ?_) | refine gg_splitN rfl rfl (fun _ => ?_) (fun _ => ?_) | refine gg_split rfl rfl (fun _ => ?_) (fun _ => ?_)) | (refine k_cond ?_; first | refine t_condS rfl (fun _ => ?_) (fun _ => ?_) | refine t_condSN rfl (fun _ => ?_) (fun _ => ?_) | refine t_condSB rfl (fun _ => ?_) (fun _ => ?_)))
  · omega
  · omega
  refine r_addN (m := n) (n := 64) rfl rfl (by omega) rfl ?_
  refine r_subN (m := n + 64) (n := 1) rfl rfl (by omega) (by omega) rfl ?_
  refine r_quoN (m := n + 63) (n := 64) rfl rfl (by omega) (by rw [i64_nat (by omega)]) rfl ?_
  refine r_makeSlice rfl rfl (Nat.le_refl _) (by omega) (by omega) rfl rfl rfl (fun wb => ?_)
  refine mk (Value.int .i64) (Value.int .i64) (isInt .i64) fun mr => ?_
  refine r_build (cells := rowc n wb mr 0) rfl rfl rfl ?_
  refine r_box (cs := rowc n wb mr 0) rfl rfl rfl rfl (fun p => ?_)
  repeat refine s1 ?_
  refine jh [pt p (.cells (rowc n wb mr 0).toArray T.bits_Row (0, 0)), vec (some ⟨wb, 0, none⟩) ((n + 63) / 64) ((n + 63) / 64) T.uint64 1 (List.replicate ((n + 63) / 64) (w64 0)), mapI mr fun _ => none] ?_
  refine j_ent (Ent.cons _ (Ent.unvec0 rfl _)) ?_
  rw [show List.replicate ((n + 63) / 64) (w64 0) = (List.replicate ((n + 63) / 64) 0).map w64 by simp]
  refine j_ent (Ent.row (f := fun _ => 0) ⟨h1, h2, by simp, fun x hx => ?_, fun i _ x hx => ?_, fun _ _ => rfl, fun _ => by omega⟩) ?_
  · rw [(List.mem_replicate.1 hx).2]; omega
  · rw [(List.mem_replicate.1 (List.mem_of_getElem? hx)).2]; simp
  exact f2 p
end Go.Proofs.YtcnpkmdooekmgaaGreatDoor
namespace Go.Proofs.YtcnpkmdooekmgaaGreatDoor
open Go Sl
attribute [local irreducible] cw sw J Exit.then Exit.inBlock Exit.noGoto bodyPost swG swL permL
theorem width64_c : Pure F.octet_width_uint64 [] (i64 8) := by
  intro Φ
  refine fo fun F => ?_
  repeat refine s1 ?_
  refine r_cpl rfl rfl ?_
  repeat refine s1 ?_
  refine t_loop (σ := Nat) (fun k => [(1, i64 k), (2, w64 (2 ^ (64 - 8 * k) - 1))]) (fun _ => F) (fun k => k ≤ 8) (fun k => 8 - k) 0 (by omega) ⟨rfl, by rfl, trivial⟩ (Ent.refl _) ?_
  intro k hk
  have h2 : ∀ k, k < 8 → 0 < 2 ^ (64 - 8 * k) - 1 ∧ (2 ^ (64 - 8 * k) - 1) / 256 = 2 ^ (64 - 8 * (k + 1)) - 1 := by decide
  repeat refine s1 ?_
  refine r_icmp rfl rfl rfl rfl ?_
  repeat refine s1 ?_
  by_cases h8 : k = 8
  · subst h8
    refine t_condF rfl (by simp) ?_
    repeat refine s1 ?_
    exact f1 ()
  · obtain ⟨h3, h4⟩ := h2 k (by omega)
    generalize 2 ^ (64 - 8 * k) - 1 = x at *
    refine t_condT rfl (by simp; omega) ?_
    repeat refine s1 ?_
    refine r_shr rfl rfl (by omega) (by simp [IntKind.bits]) rfl ?_
    rw [show ((x : Int) / 2 ^ (8 : Int).toNat) = ((x / 256 : Nat) : Int) by simp, h4]
    repeat refine s1 ?_
    exact j_again (k + 1) (by omega) (by omega) ⟨rfl, rfl, trivial⟩ (Ent.refl _)
theorem put64_c (v : Nat) (_hv : v < 2 ^ 64) (Φ : Base) : Sl.Fn Tryz.prog Φ F.octet_Put_uint64 [.int .u64 (v : Int)] [] (fun _ : Nat => True) (fun b => .slice (some ⟨b, 0, none⟩) 8 8) (fun b => [vec (some ⟨b, 0, none⟩) 8 8 T.uint8 1 ((be 8 v).map u8)]) := by
  refine fn_of rfl rfl (fun F => ?_)
  dsimp only [argEnv, List.cons_append, List.nil_append, Nat.zero_add, Nat.reduceAdd]
  repeat refine s1 ?_
  refine r_call rfl (blt_some rfl) rfl (width64_c Φ) ?_
  intro _ _; dsimp only [bnd, List.cons_append, List.nil_append]
  repeat refine s1 ?_
  refine r_makeSlice (n := 8) (c := 8) rfl rfl (by decide) (by decide) (by decide) rfl rfl rfl (fun b => ?_)
  refine j_ent (Ent.unvec0 rfl _) ?_
  repeat refine s1 ?_
  refine t_loop (σ := Nat × List Nat) (fun s => [(10, i64 s.1), (9, i64 8), (3, i64 8), (4, .slice (some ⟨b, 0, none⟩) 8 8), (0, .int .u64 (v : Int))]) (fun s => pt b (.cells (s.2.map u8).toArray T.uint8 (0, 0)) :: F)
    (fun s => s.1 ≤ 8 ∧ s.2.length = 8 ∧ ∀ j, j < s.1 → s.2[j]? = some (v / 256 ^ (8 - 1 - j) % 256)) (fun s => 8 - s.1) (0, List.replicate 8 0) ⟨by show 0 ≤ 8; decide, rfl, fun j hj => absurd hj (Nat.not_lt_zero j)⟩ ⟨rfl, rfl, rfl, rfl, rfl, trivial⟩ (Ent.refl _) ?_
  rintro ⟨i, xs⟩ ⟨hi, hl, hx⟩
  dsimp only at *
  repeat refine s1 ?_
  refine r_iop rfl rfl rfl rfl ?_
  repeat refine s1 ?_
  refine t_condD rfl (fun h => ?_) (fun h => ?_)
  · repeat refine s1 ?_
    refine r_subN (n := 1) rfl rfl (by decide) (by decide) rfl ?_
    repeat refine s1 ?_
    refine r_subN rfl rfl (by omega) (by decide) rfl ?_
    refine r_mulN (m := 8) rfl rfl (by omega) rfl ?_
    refine r_shr rfl rfl (by omega) (by simp [IntKind.bits]; omega) rfl ?_
    refine j_val (.int .u64 ((v / 256 ^ (8 - 1 - i) : Nat) : Int)) (by
      have e : (256 : Nat) ^ (8 - 1 - i) = 2 ^ (8 * (8 - 1 - i)) := by rw [Nat.pow_mul]
      rw [e, Int.toNat_natCast]; simp) ?_
    repeat refine s1 ?_
    rw [wrapM8 (v / 256 ^ (8 - 1 - i))]
    refine r_idx rfl rfl (by omega) (by omega) rfl ?_
    refine r_store1 rfl rfl (by simp [hl]; omega) rfl rfl ?_
    repeat refine s1 ?_
    refine j_again (i + 1, xs.set i (v / 256 ^ (8 - 1 - i) % 256)) ⟨by show i + 1 ≤ 8; omega, by simpa using hl, fun j hj => ?_⟩ (by show 8 - (i + 1) < 8 - i; omega) ⟨rfl, rfl, rfl, rfl, rfl, trivial⟩ ?_
    · by_cases e : j = i
      · subst e; exact List.getElem?_set_self (by omega)
      · show (xs.set i _)[j]? = _
        rw [List.getElem?_set_ne (Ne.symm e)]
        exact hx j (by have : j < i + 1 := hj; omega)
    · have e1 : (xs.map u8).set (0 + (i : Int).toNat * 1) (u8 (v / 256 ^ (8 - 1 - i) % 256)) = (xs.set i (v / 256 ^ (8 - 1 - i) % 256)).map u8 := by simp [List.map_set]
      rw [e1]
      exact Ent.refl _
  · have e : i = 8 := by omega
    subst e
    have hxs : xs = be 8 v := by
      apply List.ext_getElem?
      intro j
      by_cases hj : j < 8
      · rw [hx j hj, be_at hj]
      · rw [List.getElem?_eq_none (by omega), List.getElem?_eq_none (by rw [be_len]; omega)]
    subst hxs
    repeat refine s1 ?_
    refine j_ent (Ent.vec0 (n := 8) (s := 1) (by simp [be_len]) _) ?_
    refine j_fin rfl (.cons (rv_tmp rfl) .nil) b (by rfl) (by trivial)
theorem get64_c (a : Option Addr) (cap : Nat) (bs : List Nat) (hl : bs.length = 8) (hx : ∀ x ∈ bs, x < 256) (Φ : Base) :
    Sl.Fn Tryz.prog Φ F.octet_Get_uint64 [.slice a 8 cap, i64 0] [brow a 8 cap bs] (fun _ : Unit => True) (fun _ => .tuple #[.int .u64 (num bs : Int), i64 0]) (fun _ => []) := by
  refine fn_of rfl rfl (fun F => ?_)
  dsimp only [argEnv, List.cons_append, List.nil_append, Nat.zero_add, Nat.reduceAdd]
  refine j_leni (fun hll hc ha => ?_)
  obtain ⟨b, off, hab⟩ := ha (by decide)
  subst hab
  repeat refine s1 ?_
  refine r_call rfl (blt_some rfl) rfl (width64_c Φ) ?_
  intro _ _; dsimp only [bnd, List.cons_append, List.nil_append]
  repeat refine s1 ?_
  refine r_cmpF rfl rfl rfl (by decide) rfl ?_
  repeat refine s1 ?_
  refine r_cmpF rfl rfl rfl (by decide) rfl ?_
  repeat refine s1 ?_
  refine r_subN (m := 8) (n := 0) rfl rfl (by decide) (by decide) rfl ?_
  repeat refine s1 ?_
  refine r_cmpF rfl rfl rfl (by decide) rfl ?_
  repeat refine s1 ?_
  refine r_addN (m := 0) (n := 8) rfl rfl (by decide) rfl ?_
  refine r_piece 0 8 cap rfl (.inr ⟨.i64, rfl⟩) (.inr ⟨.i64, rfl⟩) (.inl ⟨rfl, rfl⟩) (by decide) (by omega) (by omega) rfl ?_
  have e : (if cap = 0 then (some ⟨b, off, none⟩ : Option Addr) else (some ⟨b, off, none⟩ : Option Addr).map (·.add (0 * 1))) = some ⟨b, off, none⟩ := by rw [if_neg (by omega)]; simp [add_at]
  rw [e]
  repeat refine s1 ?_
  have hlt := num_lt
  refine t_loop (σ := Nat) (fun i => [(34, i64 i), (33, i64 8), (32, .slice (some ⟨b, off, none⟩) 8 cap), (7, .int .u64 (num (bs.take i) : Int))]) (fun _ => brow (some ⟨b, off, none⟩) 8 cap bs :: F)
    (fun i => i ≤ 8) (fun i => 8 - i) 0 (by decide) ⟨rfl, rfl, rfl, rfl, trivial⟩ (Ent.refl _) ?_
  intro i hi
  dsimp only at *
  repeat refine s1 ?_
  refine r_iop rfl rfl rfl rfl ?_
  repeat refine s1 ?_
  refine t_condD rfl (fun h => ?_) (fun h => ?_)
  · have hi2 : i < bs.length := by omega
    have hv : num (bs.take i) < 256 ^ 7 := Nat.lt_of_lt_of_le (num_lt i _ (by simp; omega) (fun x hx' => hx x (List.mem_of_mem_take hx'))) (Nat.pow_le_pow_right (by decide) (by omega))
    have hp : (256 : Nat) ^ 7 ≤ 2 ^ 56 := by decide
    repeat refine s1 ?_
    refine r_idx rfl rfl (by omega) (by omega) rfl ?_
    refine r_loadI (n := 8) (cap := cap) (E := T.uint8) (s := 1) (xs := bs.map u8) (off := off) rfl (j := i) (v := u8 bs[i]) (by omega) (by simp [List.getElem?_eq_getElem hi2]) rfl rfl ?_
    repeat refine s1 ?_
    refine r_shl rfl rfl (by decide) rfl ?_
    refine j_val (.int .u64 ((num (bs.take i) * 256 : Nat) : Int)) (by
      have e8 : IntKind.u64.wrap ((num (bs.take i) : Int) * 2 ^ min (8 : Int).toNat IntKind.u64.bits) = ((num (bs.take i) * 256 : Nat) : Int) := by
        have : (num (bs.take i) : Int) * 2 ^ min (8 : Int).toNat IntKind.u64.bits = ((num (bs.take i) * 256 : Nat) : Int) := by simp [IntKind.bits]
        rw [this, wrapU64 (by omega)]
      rw [e8]) ?_
    repeat refine s1 ?_
    have hb8 := hx bs[i] (List.getElem_mem hi2)
    rw [wrapU64 (n := bs[i]) (by omega)]
    refine r_iop rfl rfl rfl rfl ?_
    refine j_val (.int .u64 ((num (bs.take i) * 256 + bs[i] : Nat) : Int)) (by rw [or_u64 (by omega) hb8]) ?_
    repeat refine s1 ?_
    have ht : bs.take (i + 1) = bs.take i ++ [bs[i]] := by rw [List.take_add_one, List.getElem?_eq_getElem hi2]; rfl
    exact j_again (i + 1) (by omega) (by omega) ⟨rfl, rfl, rfl, by rw [ht, num_snoc]; rfl, trivial⟩ (Ent.refl _)
  · have e : i = 8 := by omega
    subst e
    have hv : num bs < 2 ^ 64 := Nat.lt_of_lt_of_le (num_lt 8 bs hl hx) (by decide)
    repeat refine s1 ?_
    rw [List.take_of_length_le (by omega)]
    refine j_fin rfl (.cons (rv_tmp rfl) (.cons (rv_tmp rfl) .nil)) () (by rfl) (by trivial)
theorem getN64_c (Φ : Base) : Sl.Fn Tryz.prog Φ F.octet_Get_uint64 [.slice none 0 0, i64 0] [] (fun _ : Unit => True) (fun _ => .tuple #[.int .u64 0, i64 10]) (fun _ => []) := by
  refine fn_of rfl rfl (fun F => ?_)
  dsimp only [argEnv, List.cons_append, List.nil_append, Nat.zero_add, Nat.reduceAdd]
  repeat refine s1 ?_
  refine r_call rfl (blt_some rfl) rfl (width64_c Φ) ?_
  intro _ _; dsimp only [bnd, List.cons_append, List.nil_append]
  repeat refine s1 ?_
  refine r_cmpF rfl rfl rfl (by decide) rfl ?_
  repeat refine s1 ?_
  refine r_cmpF rfl rfl rfl (by decide) rfl ?_
  repeat refine s1 ?_
  refine r_subN (m := 0) (n := 0) rfl rfl (by decide) (by decide) rfl ?_
  repeat refine s1 ?_
  refine r_cmpT rfl rfl rfl (by decide) rfl ?_
  repeat refine s1 ?_
  refine j_fin rfl (.cons (rv_tmp rfl) (.cons (rv_tmp rfl) .nil)) () (by rfl) (by trivial)
theorem next64_c (p : Nat) (s : Option (List Nat)) (hs : ∀ bs, s = some bs → ∀ x ∈ bs, x < 256) (Φ : Base) : Sl.Fn Tryz.prog Φ F.octet_next_uint64 [.pointer (some ⟨p, 0, none⟩)] [rdr p s] (fun _ : Unit => True) (fun _ => .int .u64 ((rdU 8 s).1 : Int)) (fun _ => [rdr p (rdU 8 s).2]) := by
  refine fn_of rfl rfl (fun F => ?_)
  dsimp only [argEnv, List.cons_append, List.nil_append, Nat.zero_add, Nat.reduceAdd]
  repeat refine s1 ?_
  refine r_call rfl (blt_some rfl) rfl (width64_c Φ) ?_
  intro _ _; dsimp only [bnd, List.cons_append, List.nil_append]
  cases s with
  | none =>
    have e : rdU 8 none = (0, none) := rfl
    rw [e]
    refine r_call rfl (blt_some rfl) rfl (bytesN_c p 8 Φ) ?_
    intro _ _; dsimp only [bnd, List.cons_append, List.nil_append]
    refine r_call rfl (blt_some rfl) rfl (getN64_c Φ) ?_
    intro _ _; dsimp only [bnd, List.cons_append, List.nil_append]
    repeat refine s1 ?_
    refine j_fin rfl (.cons (rv_tmp rfl) .nil) () (by rfl) (by trivial)
  | some bs =>
    by_cases h : 8 ≤ bs.length
    · have e : rdU 8 (some bs) = (num (bs.take 8), some (bs.drop 8)) := by simp only [rdU]; rw [if_pos h]
      rw [e]
      refine r_call rfl (blt_some rfl) rfl (bytes_c p 8 bs h Φ) ?_
      intro a _
      dsimp only [bnd, List.cons_append, List.nil_append]
      refine r_call rfl (blt_some rfl) rfl (get64_c a 8 (bs.take 8) (by simp; omega) (fun x hx => hs bs rfl x (List.mem_of_mem_take hx)) Φ) ?_
      intro _ _; dsimp only [bnd, List.cons_append, List.nil_append]
      repeat refine s1 ?_
      refine j_fin rfl (.cons (rv_tmp rfl) .nil) () (by rfl) (by trivial)
    · have e : rdU 8 (some bs) = (0, none) := by simp only [rdU]; rw [if_neg h]
      rw [e]
      refine r_call rfl (blt_some rfl) rfl (bytesS_c p 8 bs (by omega) Φ) ?_
      intro _ _; dsimp only [bnd, List.cons_append, List.nil_append]
      refine r_call rfl (blt_some rfl) rfl (getN64_c Φ) ?_
      intro _ _; dsimp only [bnd, List.cons_append, List.nil_append]
      repeat refine s1 ?_
      refine j_fin rfl (.cons (rv_tmp rfl) .nil) () (by rfl) (by trivial)
theorem U64_c (p : Nat) (s : Option (List Nat)) (hs : ∀ bs, s = some bs → ∀ x ∈ bs, x < 256) (Φ : Base) : Sl.Fn Tryz.prog Φ F.octet_Reader_U64 [.pointer (some ⟨p, 0, none⟩)] [rdr p s] (fun _ : Unit => True) (fun _ => .int .u64 ((rdU 8 s).1 : Int)) (fun _ => [rdr p (rdU 8 s).2]) := by
  refine fn_of rfl rfl (fun F => ?_)
  dsimp only [argEnv, List.cons_append, List.nil_append, Nat.zero_add, Nat.reduceAdd]
  repeat refine s1 ?_
  refine r_call rfl (blt_some rfl) rfl (next64_c p s hs Φ) ?_
  intro _ _; dsimp only [bnd, List.cons_append, List.nil_append]
  repeat refine s1 ?_
  refine j_fin rfl (.cons (rv_tmp rfl) .nil) () (by rfl) (by trivial)
end Go.Proofs.YtcnpkmdooekmgaaGreatDoor
namespace Go.Proofs.YtcnpkmdooekmgaaGreatDoor
open Go Sl
attribute [local irreducible] cw sw J Exit.then Exit.inBlock Exit.noGoto bodyPost swG swL permL
abbrev w32 (x : Int) : Value := .int .u32 x
def rot (x : Int) (n : Nat) : Int := bits .or .u32 (IntKind.u32.wrap (x * 2 ^ (32 - n))) (x / 2 ^ n)
theorem rot_arg : ∀ n : Nat, n < 32 → 0 < n → bits .and .u64 (IntKind.u64.wrap (IntKind.i64.wrap (0 - (n : Int)))) 31 = ((32 - n : Nat) : Int) ∧ IntKind.u64.wrap (32 - ((32 - n : Nat) : Int)) = (n : Int) := by decide +kernel
theorem turn_c (x : Int) (n : Nat) (h : n < 32) (h0 : 0 < n) (Φ : Base) : Sl.Fn Tryz.prog Φ F.sha_turn [w32 x, i64 n] [] (fun _ : Unit => True) (fun _ => w32 (rot x n)) (fun _ => []) := by
  obtain ⟨h1, h2⟩ := rot_arg n h h0
  have rl : Sl.Fn Tryz.prog Φ F.math_bits_RotateLeft32 [w32 x, .int .i64 (IntKind.i64.wrap (0 - (n : Int)))] [] (fun _ : Unit => True) (fun _ => w32 (rot x n)) (fun _ => []) := by
    refine fo fun F => ?_
    repeat refine s1 ?_
    refine r_iop rfl rfl rfl rfl ?_
    rw [h1]
    repeat refine s1 ?_
    refine r_shl rfl rfl (by omega) rfl ?_
    repeat refine s1 ?_
    refine r_iop rfl rfl rfl rfl ?_
    rw [h2]
    refine r_shr rfl rfl (by omega) (by simp [IntKind.bits]; omega) rfl ?_
    refine r_iop rfl rfl rfl rfl ?_
    rw [show min ((32 - n : Nat) : Int).toNat IntKind.u32.bits = 32 - n by simp [IntKind.bits], show ((n : Int)).toNat = n from rfl]
    repeat refine s1 ?_
    exact f1 ()
  refine fo fun F => ?_
  repeat refine s1 ?_
  refine r_neg rfl rfl ?_
  refine cl rl ?_
  repeat refine s1 ?_
  exact f1 ()
/-- the numbers that a piece of code lays. -/
def laid : Code → List Int
  | .seq a b => laid a ++ laid b
  | .region _ ops _ => ops.toList.flatMap fun o => match o.op with
    | .build _ ps => ps.toList.filterMap fun p => match p.2 with
      | .const (.int _ n) => some n
      | _ => none
    | _ => []
  | _ => []
noncomputable def startL : List Int := laid (Tryz.f229.body.getD .skip)
noncomputable def numsL : List Int := laid (Tryz.f232.body.getD .skip)
theorem start_len : startL.length = 8 := by kernel_rfl
theorem nums_len : numsL.length = 64 := by kernel_rfl
theorem start_c (Φ : Base) : Sl.Fn Tryz.prog Φ F.sha_start [] [] (fun _ : Unit => True) (fun _ => .agg (startL.map w32).toArray) (fun _ => []) := by
  refine fo fun F => ?_
  repeat refine s1 ?_
  refine r_alloc rfl rfl rfl (fun b => ?_)
  repeat refine s1 ?_
  refine r_buildA (startL.map fun x => .const (w32 x)) (startL.map w32) (by kernel_rfl) (by kernel_rfl) (by simp [Value.oneCell']) (by kernel_rfl) rfl ?_
  refine r_storeW rfl rfl (by simp [start_len]) (by rfl) (by simp [Value.oneCell']) rfl ?_
  repeat refine s1 ?_
  exact j_fin rfl (.cons (rv_agg rfl (by simp [start_len])) .nil) () rfl trivial
theorem nums_c (Φ : Base) : Sl.Fn Tryz.prog Φ F.sha_numbers [] [] (fun _ : Unit => True) (fun _ => .agg (numsL.map w32).toArray) (fun _ => []) := by
  refine fo fun F => ?_
  repeat refine s1 ?_
  refine r_alloc rfl rfl rfl (fun b => ?_)
  repeat refine s1 ?_
  refine r_buildA (numsL.map fun x => .const (w32 x)) (numsL.map w32) (by kernel_rfl) (by kernel_rfl) (by simp [Value.oneCell']) (by kernel_rfl) rfl ?_
  refine r_storeW rfl rfl (by simp [nums_len]) (by rfl) (by simp [Value.oneCell']) rfl ?_
  repeat refine s1 ?_
  exact j_fin rfl (.cons (rv_agg rfl (by simp [nums_len])) .nil) () rfl trivial
abbrev xr (a b : Int) : Int := bits .xor .u32 a b
abbrev an (a b : Int) : Int := bits .and .u32 a b
abbrev wr (a : Int) : Int := IntKind.u32.wrap a
abbrev cp (a : Int) : Int := bits .xor .u32 (if IntKind.u32.signed then -1 else IntKind.u32.max) a
def ext (w : List Int) (k : Nat) : Int :=
  let p := w.getD (k + 1) 0; let q := w.getD (k + 14) 0
  wr (wr (wr (w.getD k 0 + xr (xr (rot p 7) (rot p 18)) (p / 2 ^ 3)) + w.getD (k + 9) 0) + xr (xr (rot q 17) (rot q 19)) (q / 2 ^ 10))
def W1 (g : Nat → Int) : Nat → List Int
  | 0 => List.replicate 64 0
  | i + 1 => (W1 g i).set i (g i)
def W2 (w : List Int) : Nat → List Int
  | 0 => w
  | k + 1 => (W2 w k).set (k + 16) (ext (W2 w k) k)
theorem W1_len (g : Nat → Int) : ∀ i, (W1 g i).length = 64
  | 0 => by simp [W1]
  | i + 1 => by simp [W1, W1_len g i]
theorem W2_len (w : List Int) : ∀ i, (W2 w i).length = w.length
  | 0 => rfl
  | i + 1 => by simp [W2, W2_len w i]
structure S8 where
  (a b c d e f g h : Int)
def S8.l (s : S8) : List Int := [s.a, s.b, s.c, s.d, s.e, s.f, s.g, s.h]
def S8.t1 (s : S8) (k w : Int) : Int := wr (wr (wr (wr (s.h + xr (xr (rot s.e 6) (rot s.e 11)) (rot s.e 25)) + xr (an s.e s.f) (an (cp s.e) s.g)) + k) + w)
def S8.t2 (s : S8) : Int := wr (xr (xr (rot s.a 2) (rot s.a 13)) (rot s.a 22) + xr (xr (an s.a s.b) (an s.a s.c)) (an s.b s.c))
def S8.next (s : S8) (k w : Int) : S8 := ⟨wr (s.t1 k w + s.t2), s.a, s.b, s.c, wr (s.d + s.t1 k w), s.e, s.f, s.g⟩
noncomputable def S8.rounds (w : List Int) (s : S8) : Nat → S8
  | 0 => s
  | i + 1 => (S8.rounds w s i).next (numsL.getD i 0) (w.getD i 0)
def S8.of (l : List Int) : S8 := ⟨l.getD 0 0, l.getD 1 0, l.getD 2 0, l.getD 3 0, l.getD 4 0, l.getD 5 0, l.getD 6 0, l.getD 7 0⟩
theorem S8.of_l {l : List Int} (h : l.length = 8) : (S8.of l).l = l := by
  obtain _ | ⟨a, _ | ⟨b, _ | ⟨c, _ | ⟨d, _ | ⟨e, _ | ⟨f, _ | ⟨g, _ | ⟨i, _ | ⟨j, l⟩⟩⟩⟩⟩⟩⟩⟩⟩ := l <;> simp at h
  rfl
def H1 (v h : List Int) : Nat → List Int
  | 0 => h
  | i + 1 => (H1 v h i).set i (wr ((H1 v h i).getD i 0 + v.getD i 0))
theorem H1_len (v h : List Int) : ∀ i, (H1 v h i).length = h.length
  | 0 => rfl
  | i + 1 => by simp [H1, H1_len v h i]
/-- what is left of a sum's numbers when a block was taken. -/
noncomputable def takeM (h : List Int) (buf : List Nat) : List Int := H1 (S8.rounds (W2 (W1 (fun i => (num ((buf.drop (4 * i)).take 4) : Int)) 16) 48) (S8.of h) 64).l h 8
/-- a number of 32, out of a row that nobody turns meanwhile. -/
theorem get32at_c (M : List Assn) (p off n cap at' : Nat) (bs : List Nat) (hl : bs.length = 4) (hx : ∀ x ∈ bs, x < 256) (hn : at' + 4 ≤ n) (hc : n ≤ cap) (hb : cap ≤ 1000000) (Φ : Base)
    (hrd : ∀ F w, Holds Φ (M ++ F) w → ∀ j (x : Nat), bs[j]? = some x → w.cell? ⟨p, off + at' + j, none⟩ = some (u8 x)) :
    Sl.Fn Tryz.prog Φ F.octet_Get_uint32 [.slice (some ⟨p, off, none⟩) n cap, i64 at'] M (fun _ : Unit => True) (fun _ => .tuple #[.int .u32 (num bs : Int), i64 0]) (fun _ => M) := by
  refine fn_of rfl rfl (fun F => ?_)
  dsimp only [argEnv, List.cons_append, List.nil_append, Nat.zero_add, Nat.reduceAdd]
  repeat refine s1 ?_
  refine cl (width32_c Φ) ?_
  repeat refine s1 ?_
  refine r_cmpF rfl rfl rfl (by simp) rfl ?_
  repeat refine s1 ?_
  refine r_cmpF rfl rfl rfl (by simp; omega) rfl ?_
  repeat refine s1 ?_
  refine r_subN (m := n) (n := at') rfl rfl (by omega) (by omega) rfl ?_
  repeat refine s1 ?_
  refine r_cmpF rfl rfl rfl (by simp; omega) rfl ?_
  repeat refine s1 ?_
  refine r_addN (m := at') (n := 4) rfl rfl (by omega) rfl ?_
  refine r_piece at' (at' + 4) cap rfl (.inr ⟨.i64, rfl⟩) (.inr ⟨.i64, rfl⟩) (.inl ⟨rfl, rfl⟩) (by omega) (by omega) (by omega) rfl ?_
  rw [if_neg (by omega)]
  simp only [Option.map_some, add_at, Nat.mul_one, Nat.add_sub_cancel_left]
  repeat refine s1 ?_
  refine t_loop (σ := Nat) (fun i => [(34, i64 i), (33, i64 4), (32, .slice (some ⟨p, off + at', none⟩) 4 (cap - at')), (7, .int .u64 (num (bs.take i) : Int))]) (fun _ => M ++ F)
    (fun i => i ≤ 4) (fun i => 4 - i) 0 (by decide) ⟨rfl, rfl, rfl, rfl, trivial⟩ (Ent.refl _) ?_
  intro i hi
  dsimp only at *
  repeat refine s1 ?_
  refine r_iop rfl rfl rfl rfl ?_
  repeat refine s1 ?_
  refine t_condD rfl (fun h => ?_) (fun h => ?_)
  · have hi2 : i < bs.length := by omega
    have hv : num (bs.take i) < 256 ^ 3 := Nat.lt_of_lt_of_le (num_lt i _ (by simp; omega) (fun x hx' => hx x (List.mem_of_mem_take hx'))) (Nat.pow_le_pow_right (by decide) (by omega))
    have hp : (256 : Nat) ^ 3 ≤ 2 ^ 24 := by decide
    repeat refine s1 ?_
    refine ix rfl rfl (by omega) ?_
    refine r_loadBy rfl (v := u8 bs[i]) (fun w hh => by rw [Nat.mul_one]; exact hrd F w hh i _ (List.getElem?_eq_getElem hi2)) ?_
    repeat refine s1 ?_
    refine r_shl rfl rfl (by decide) rfl ?_
    refine j_val (.int .u64 ((num (bs.take i) * 256 : Nat) : Int)) (by
      have e8 : IntKind.u64.wrap ((num (bs.take i) : Int) * 2 ^ min (8 : Int).toNat IntKind.u64.bits) = ((num (bs.take i) * 256 : Nat) : Int) := by
        have : (num (bs.take i) : Int) * 2 ^ min (8 : Int).toNat IntKind.u64.bits = ((num (bs.take i) * 256 : Nat) : Int) := by simp [IntKind.bits]
        rw [this, wrapU64 (by omega)]
      rw [e8]) ?_
    repeat refine s1 ?_
    have hb8 := hx bs[i] (List.getElem_mem hi2)
    rw [wrapU64 (n := bs[i]) (by omega)]
    refine r_iop rfl rfl rfl rfl ?_
    refine j_val (.int .u64 ((num (bs.take i) * 256 + bs[i] : Nat) : Int)) (by rw [or_u64 (by omega) hb8]) ?_
    repeat refine s1 ?_
    have ht : bs.take (i + 1) = bs.take i ++ [bs[i]] := by rw [List.take_add_one, List.getElem?_eq_getElem hi2]; rfl
    exact j_again (i + 1) (by omega) (by omega) ⟨rfl, rfl, rfl, by rw [ht, num_snoc]; rfl, trivial⟩ (Ent.refl _)
  · have e : i = 4 := by omega
    subst e
    have hv : num bs < 2 ^ 32 := Nat.lt_of_lt_of_le (num_lt 4 bs hl hx) (by decide)
    repeat refine s1 ?_
    rw [List.take_of_length_le (by omega), wrapU32 (n := num bs) (by omega)]
    exact j_end (rs := [.tmp _, .tmp _]) rfl (.cons (rv_tmp rfl) (.cons (rv_tmp rfl) .nil)) () rfl trivial (Ent.refl _)
end Go.Proofs.YtcnpkmdooekmgaaGreatDoor
namespace Go.Proofs.YtcnpkmdooekmgaaGreatDoor
open Go Sl
attribute [local irreducible] cw sw J Exit.then Exit.inBlock Exit.noGoto bodyPost swG swL permL
abbrev hcells (h : List Int) (buf : List Nat) (n : Int) (cnt : Int) : List Value := .bool true :: (h.map w32 ++ (buf.map u8 ++ [.int .i64 n, .int .u64 cnt]))
theorem hc_h {h : List Int} {buf : List Nat} {n cnt : Int} {i : Nat} {x : Int} (hx : h[i]? = some x) : (hcells h buf n cnt)[1 + i]? = some (w32 x) := by
  have hl := (List.getElem?_eq_some_iff.1 hx).1
  rw [Nat.add_comm, List.getElem?_cons_succ, List.getElem?_append_left (by simpa using hl), List.getElem?_map, hx]; rfl
theorem hc_b {h : List Int} {buf : List Nat} {n cnt : Int} (h8 : h.length = 8) {i : Nat} {x : Nat} (hx : buf[i]? = some x) : (hcells h buf n cnt)[9 + i]? = some (u8 x) := by
  have hl := (List.getElem?_eq_some_iff.1 hx).1
  rw [show 9 + i = (8 + i) + 1 by omega, List.getElem?_cons_succ, List.getElem?_append_right (by simp [h8]), List.length_map, h8, Nat.add_sub_cancel_left, List.getElem?_append_left (by simpa using hl), List.getElem?_map, hx]; rfl
theorem hc_n {h : List Int} {buf : List Nat} {n cnt : Int} (h8 : h.length = 8) (h64 : buf.length = 64) : (hcells h buf n cnt)[73]? = some (.int .i64 n) := by
  rw [show 73 = 72 + 1 from rfl, List.getElem?_cons_succ, List.getElem?_append_right (by simp [h8]), List.length_map, h8, List.getElem?_append_right (by simp [h64]), List.length_map, h64]; rfl
theorem hc_c {h : List Int} {buf : List Nat} {n cnt : Int} (h8 : h.length = 8) (h64 : buf.length = 64) : (hcells h buf n cnt)[74]? = some (.int .u64 cnt) := by
  rw [show 74 = 73 + 1 from rfl, List.getElem?_cons_succ, List.getElem?_append_right (by simp [h8]), List.length_map, h8, List.getElem?_append_right (by simp [h64]), List.length_map, h64]; rfl
theorem hs_h {h : List Int} {buf : List Nat} {n cnt : Int} {i : Nat} (hi : i < h.length) (x : Int) : (hcells h buf n cnt).set (1 + i) (w32 x) = hcells (h.set i x) buf n cnt := by
  rw [Nat.add_comm, hcells, List.set_cons_succ, List.set_append_left _ _ (by simpa using hi), ← List.map_set]
theorem hs_n {h : List Int} {buf : List Nat} {n cnt : Int} (h8 : h.length = 8) (h64 : buf.length = 64) (x : Int) : (hcells h buf n cnt).set 73 (.int .i64 x) = hcells h buf x cnt := by
  rw [show 73 = 72 + 1 from rfl, hcells, List.set_cons_succ, List.set_append_right _ _ (by simp [h8]), List.length_map, h8, List.set_append_right _ _ (by simp [h64]), List.length_map, h64]; rfl
theorem hs_c {h : List Int} {buf : List Nat} {n cnt : Int} (h8 : h.length = 8) (h64 : buf.length = 64) (x : Int) : (hcells h buf n cnt).set 74 (.int .u64 x) = hcells h buf n x := by
  rw [show 74 = 73 + 1 from rfl, hcells, List.set_cons_succ, List.set_append_right _ _ (by simp [h8]), List.length_map, h8, List.set_append_right _ _ (by simp [h64]), List.length_map, h64]; rfl
abbrev hobj (p : Nat) (h : List Int) (buf : List Nat) (n cnt : Int) : Assn := pt p (.cells (hcells h buf n cnt).toArray T.sha_Hash (0, 0))
theorem take_c (p : Nat) (h : List Int) (buf : List Nat) (n cnt : Int) (h8 : h.length = 8) (h64 : buf.length = 64) (hb : ∀ x ∈ buf, x < 256) (Φ : Base) :
    Sl.Fn Tryz.prog Φ F.sha_Hash_take [ptr p] [hobj p h buf n cnt] (fun _ : Unit => True) (fun _ => .tuple #[]) (fun _ => [hobj p (takeM h buf) buf 0 cnt]) := by
  refine fo fun F => ?_
  repeat refine s1 ?_
  refine r_alloc (cs := (W1 (fun i => (num ((buf.drop (4 * i)).take 4) : Int)) 0).map w32) rfl rfl rfl (fun tw => ?_)
  repeat refine s1 ?_
  refine t_loop (σ := Nat) (fun i => [(17, i64 i), (2, ptr tw), (0, ptr p)]) (fun i => [hobj p h buf n cnt, pt tw (.cells ((W1 (fun i => (num ((buf.drop (4 * i)).take 4) : Int)) i).map w32).toArray T.a64_uint32 (0, 0))] ++ F) (fun i => i ≤ 16) (fun i => 16 - i)
    0 (by omega) ⟨rfl, rfl, rfl, trivial⟩ (Ent.swap _ _ _) ?_
  intro i hi
  dsimp only [List.cons_append, List.nil_append]
  repeat refine s1 ?_
  refine r_icmp rfl rfl rfl rfl ?_
  repeat refine s1 ?_
  refine t_condS rfl (fun hlt => ?_) (fun hlt => ?_)
  · repeat refine s1 ?_
    refine r_mulN (m := 4) (n := i) rfl rfl (by omega) rfl ?_
    have hl4 : ((buf.drop (4 * i)).take 4).length = 4 := by simp; omega
    refine cl (get32at_c [hobj p h buf n cnt] p 9 64 64 (4 * i) ((buf.drop (4 * i)).take 4) hl4 (fun x hx => hb x (List.mem_of_mem_drop (List.mem_of_mem_take hx))) (by omega) (by omega) (by omega) Φ (fun F w hh j x hx => ?_)) ?_
    · have hj : buf[4 * i + j]? = some x := by
        rw [List.getElem?_take] at hx
        split at hx
        · rw [List.getElem?_drop] at hx; exact hx
        · cases hx
      exact cell_of_heap (show Holds Φ (hobj p h buf n cnt :: F) w from hh).rd (by have := hc_b (h := h) (n := n) (cnt := cnt) h8 hj; rw [Nat.add_assoc]; simpa using this)
    repeat refine s1 ?_
    refine r_idxA rfl rfl (by omega) (by omega) rfl ?_
    refine so rfl rfl ?_ (by simp [W1_len]; omega)
    repeat refine s1 ?_
    rw [show 0 + ((i : Nat) : Int).toNat * 1 = i by simp, ← List.map_set]
    exact j_again (i + 1) (by omega) (by omega) ⟨rfl, rfl, rfl, trivial⟩ (Ent.refl _)
  have e16 : i = 16 := by omega
  subst e16
  generalize hw1 : W1 (fun i => (num ((buf.drop (4 * i)).take 4) : Int)) 16 = w1
  have hw1l : w1.length = 64 := by rw [← hw1]; exact W1_len _ _
  repeat refine s1 ?_
  refine t_loop (σ := Nat) (fun k => [(4, i64 (k + 16)), (2, ptr tw), (0, ptr p)]) (fun k => [hobj p h buf n cnt, pt tw (.cells ((W2 w1 k).map w32).toArray T.a64_uint32 (0, 0))] ++ F) (fun k => k ≤ 48) (fun k => 48 - k)
    0 (by omega) ⟨rfl, rfl, rfl, trivial⟩ (Ent.refl _) ?_
  intro k hk
  dsimp only [List.cons_append, List.nil_append]
  have hl2 : (W2 w1 k).length = 64 := by rw [W2_len, hw1l]
  have at2 : ∀ j, j < 64 → ((W2 w1 k).map w32)[j]? = some (w32 ((W2 w1 k).getD j 0)) := fun j hj => by
    rw [List.getElem?_map, List.getD_eq_getElem?_getD, List.getElem?_eq_getElem (by omega)]; rfl
  repeat refine s1 ?_
  refine r_icmp rfl rfl rfl rfl ?_
  repeat refine s1 ?_
  refine t_condS rfl (fun hlt => ?_) (fun hlt => ?_)
  · repeat refine s1 ?_
    refine r_subI rfl rfl (by omega) rfl ?_
    refine r_idxA rfl rfl (by omega) (by omega) rfl ?_
    refine ld (v := w32 ((W2 w1 k).getD (k + 1) 0)) rfl (by rw [show 0 + (((k + 16 : Nat) : Int) - 15).toNat * 1 = k + 1 by omega]; exact at2 _ (by omega)) ?_
    repeat refine s1 ?_
    refine r_subI rfl rfl (by omega) rfl ?_
    refine r_idxA rfl rfl (by omega) (by omega) rfl ?_
    refine ld (v := w32 ((W2 w1 k).getD (k + 14) 0)) rfl (by rw [show 0 + (((k + 16 : Nat) : Int) - 2).toNat * 1 = k + 14 by omega]; exact at2 _ (by omega)) ?_
    generalize hp : (W2 w1 k).getD (k + 1) 0 = wp
    generalize hq : (W2 w1 k).getD (k + 14) 0 = wq
    repeat refine s1 ?_
    refine cl (turn_c wp 7 (by omega) (by omega) Φ) ?_
    repeat refine s1 ?_
    refine cl (turn_c wp 18 (by omega) (by omega) Φ) ?_
    refine r_iop rfl rfl rfl rfl ?_
    repeat refine s1 ?_
    refine r_shr rfl rfl (by omega) (by simp [IntKind.bits]) rfl ?_
    refine r_iop rfl rfl rfl rfl ?_
    repeat refine s1 ?_
    refine cl (turn_c wq 17 (by omega) (by omega) Φ) ?_
    repeat refine s1 ?_
    refine cl (turn_c wq 19 (by omega) (by omega) Φ) ?_
    refine r_iop rfl rfl rfl rfl ?_
    repeat refine s1 ?_
    refine r_shr rfl rfl (by omega) (by simp [IntKind.bits]) rfl ?_
    refine r_iop rfl rfl rfl rfl ?_
    repeat refine s1 ?_
    refine r_subI rfl rfl (by omega) rfl ?_
    refine r_idxA rfl rfl (by omega) (by omega) rfl ?_
    refine ld (v := w32 ((W2 w1 k).getD k 0)) rfl (by rw [show 0 + (((k + 16 : Nat) : Int) - 16).toNat * 1 = k by omega]; exact at2 _ (by omega)) ?_
    repeat refine s1 ?_
    refine r_iop rfl rfl rfl rfl ?_
    repeat refine s1 ?_
    refine r_subI rfl rfl (by omega) rfl ?_
    refine r_idxA rfl rfl (by omega) (by omega) rfl ?_
    refine ld (v := w32 ((W2 w1 k).getD (k + 9) 0)) rfl (by rw [show 0 + (((k + 16 : Nat) : Int) - 7).toNat * 1 = k + 9 by omega]; exact at2 _ (by omega)) ?_
    refine r_iop rfl rfl rfl rfl ?_
    repeat refine s1 ?_
    refine r_iop rfl rfl rfl rfl ?_
    refine r_idxA rfl rfl (by omega) (by omega) rfl ?_
    refine so rfl rfl ?_ (by simp [hl2]; omega)
    repeat refine s1 ?_
    rw [show 0 + ((k + 16 : Nat) : Int).toNat * 1 = k + 16 by omega, ← List.map_set]
    refine j_again (k + 1) (by omega) (by omega) ⟨rfl, rfl, rfl, trivial⟩ ?_
    · dsimp only [List.cons_append, List.nil_append, W2, ext]
      rw [hp, hq]
      exact Ent.refl _
  have e48 : k = 48 := by omega
  subst e48
  generalize hw2 : W2 w1 48 = w at *
  have atw : ∀ j, j < 64 → (w.map w32)[j]? = some (w32 (w.getD j 0)) := at2
  have atn : ∀ j, j < 64 → (numsL.map w32)[j]? = some (w32 (numsL.getD j 0)) := fun j hj => by
    rw [List.getElem?_map, List.getD_eq_getElem?_getD, List.getElem?_eq_getElem (by rw [nums_len]; exact hj)]; rfl
  repeat refine s1 ?_
  refine r_loadA (vs := h.map w32) rfl (by simp [h8]) (fun j v hj => ?_) rfl rfl ?_
  · rw [List.getElem?_map] at hj
    obtain ⟨x, hx, rfl⟩ := Option.map_eq_some_iff.1 hj
    have := hc_h (buf := buf) (n := n) (cnt := cnt) hx
    simpa using this
  refine r_alloc (cs := List.replicate 8 (w32 0)) rfl rfl rfl (fun tv => ?_)
  refine r_storeW rfl rfl (by simp [h8]) (by rfl) (by simp [Value.oneCell']) rfl ?_
  repeat refine s1 ?_
  refine cl (nums_c Φ) ?_
  repeat refine s1 ?_
  refine t_loop (σ := Nat) (fun i => [(81, i64 i), (80, .agg (numsL.map w32).toArray), (9, ptr tv), (2, ptr tw), (0, ptr p)]) (fun i => [pt tv (.cells ((S8.rounds w (S8.of h) i).l.map w32).toArray T.a8_uint32 (0, 0)), hobj p h buf n cnt, pt tw (.cells (w.map w32).toArray T.a64_uint32 (0, 0))] ++ F) (fun i => i ≤ 64) (fun i => 64 - i)
    0 (by omega) ⟨rfl, rfl, rfl, rfl, rfl, trivial⟩ (by rw [show S8.rounds w (S8.of h) 0 = S8.of h from rfl, S8.of_l h8]; exact Ent.refl _) ?_
  intro i hi
  dsimp only [List.cons_append, List.nil_append]
  repeat refine s1 ?_
  refine r_icmp rfl rfl rfl rfl ?_
  repeat refine s1 ?_
  refine t_condS rfl (fun hlt => ?_) (fun hlt => ?_)
  · generalize hs : S8.rounds w (S8.of h) i = s
    obtain ⟨a, b, c, d, e, f, g, v⟩ := s
    rw [show (S8.l ⟨a, b, c, d, e, f, g, v⟩).map w32 = [w32 a, w32 b, w32 c, w32 d, w32 e, w32 f, w32 g, w32 v] from rfl]
    repeat refine s1 ?_
    refine r_indexV (v := w32 (numsL.getD i 0)) rfl rfl (by omega) (by rw [List.getElem?_toArray]; exact atn i (by omega)) rfl ?_
    repeat refine s1 ?_
    refine t_draw [pt tv (.cells [w32 a, w32 b, w32 c, w32 d, w32 e, w32 f, w32 g, w32 v].toArray T.a8_uint32 (0, 0)), pt tw (.cells (w.map w32).toArray T.a64_uint32 (0, 0))] [1, 13, 18, 26] mixed (by kernel_rfl) ?_
    repeat refine s1 ?_
    refine cl (turn_c e 6 (by omega) (by omega) Φ) ?_
    repeat refine s1 ?_
    refine cl (turn_c e 11 (by omega) (by omega) Φ) ?_
    refine r_iop rfl rfl rfl rfl ?_
    repeat refine s1 ?_
    refine cl (turn_c e 25 (by omega) (by omega) Φ) ?_
    refine r_iop rfl rfl rfl rfl ?_
    refine r_iop rfl rfl rfl rfl ?_
    repeat refine s1 ?_
    refine r_iop rfl rfl rfl rfl ?_
    repeat refine s1 ?_
    refine r_cpl rfl rfl ?_
    repeat refine s1 ?_
    refine r_iop rfl rfl rfl rfl ?_
    refine r_iop rfl rfl rfl rfl ?_
    refine r_iop rfl rfl rfl rfl ?_
    repeat refine s1 ?_
    refine r_iop rfl rfl rfl rfl ?_
    repeat refine s1 ?_
    refine r_idxA rfl rfl (by omega) (by omega) rfl ?_
    refine s_loadBy (v := w32 (w.getD i 0)) rfl (fun q hq => cell_of_heap hq.rd (by rw [List.getElem?_toArray, show 0 + (i : Int).toNat * 1 = i by simp]; exact atw i (by omega))) rfl rfl ?_
    refine r_iop rfl rfl rfl rfl ?_
    repeat refine s1 ?_
    refine t_draw [pt tv (.cells [w32 a, w32 b, w32 c, w32 d, w32 e, w32 f, w32 g, w32 v].toArray T.a8_uint32 (0, 0))] [10, 14, 18, 20] mixed (by kernel_rfl) ?_
    repeat refine s1 ?_
    refine cl (turn_c a 2 (by omega) (by omega) Φ) ?_
    repeat refine s1 ?_
    refine cl (turn_c a 13 (by omega) (by omega) Φ) ?_
    refine r_iop rfl rfl rfl rfl ?_
    repeat refine s1 ?_
    refine cl (turn_c a 22 (by omega) (by omega) Φ) ?_
    refine r_iop rfl rfl rfl rfl ?_
    repeat refine s1 ?_
    refine r_iop rfl rfl rfl rfl ?_
    repeat refine s1 ?_
    refine r_iop rfl rfl rfl rfl ?_
    refine r_iop rfl rfl rfl rfl ?_
    repeat refine s1 ?_
    refine r_iop rfl rfl rfl rfl ?_
    refine r_iop rfl rfl rfl rfl ?_
    refine r_iop rfl rfl rfl rfl ?_
    repeat refine s1 ?_
    refine r_pieceA 1 8 8 rfl (.inr ⟨.i64, rfl⟩) (.inl ⟨rfl, rfl, rfl⟩) (.inl ⟨rfl, rfl⟩) (by decide) (by decide) (by decide) rfl ?_
    refine r_pieceA 0 7 8 rfl (.inl ⟨rfl, rfl⟩) (.inr ⟨.i64, rfl⟩) (.inl ⟨rfl, rfl⟩) (by decide) (by decide) (by decide) rfl ?_
    refine r_copyS [w32 a, w32 a, w32 b, w32 c, w32 d, w32 e, w32 f, w32 g] [w32 a, w32 b, w32 c, w32 d, w32 e, w32 f, w32 g] rfl rfl (fun q hq => reads_in _ hq.rd rfl (fun j u hj => ?_)) (by simp) (by simp [Value.oneCell']) (by rfl) ?_
    · have hj7 : j < 7 := (List.getElem?_eq_some_iff.1 hj).1
      obtain _ | _ | _ | _ | _ | _ | _ | _ := j <;> first | exact hj | omega
    repeat refine s1 ?_
    refine r_iop rfl rfl rfl rfl ?_
    repeat refine s1 ?_
    refine so rfl rfl ?_
    repeat refine s1 ?_
    refine r_iop rfl rfl rfl rfl ?_
    repeat refine s1 ?_
    refine so rfl rfl ?_
    repeat refine s1 ?_
    refine j_again (i + 1) (by omega) (by omega) ⟨rfl, rfl, rfl, rfl, rfl, trivial⟩ ?_
    rw [S8.rounds, hs]
    exact Ent.refl _
  have e64 : i = 64 := by omega
  subst e64
  have hv8 : (S8.rounds w (S8.of h) 64).l.length = 8 := rfl
  have hT : takeM h buf = H1 (S8.rounds w (S8.of h) 64).l h 8 := by rw [takeM, hw1, hw2]
  generalize (S8.rounds w (S8.of h) 64).l = v at *
  repeat refine s1 ?_
  refine t_loop (σ := Nat) (fun i => [(154, i64 i), (9, ptr tv), (0, ptr p)]) (fun i => [pt tv (.cells (v.map w32).toArray T.a8_uint32 (0, 0)), hobj p (H1 v h i) buf n cnt] ++ F) (fun i => i ≤ 8) (fun i => 8 - i)
    0 (by omega) ⟨rfl, rfl, rfl, trivial⟩ (by dsimp only [List.cons_append, List.nil_append, H1]; exact Le.ent) ?_
  intro i hi
  dsimp only [List.cons_append, List.nil_append]
  repeat refine s1 ?_
  refine r_icmp rfl rfl rfl rfl ?_
  repeat refine s1 ?_
  refine t_condS rfl (fun hlt => ?_) (fun hlt => ?_)
  · have hh8 : (H1 v h i).length = 8 := by rw [H1_len, h8]
    have at1 : ∀ (l : List Int), l.length = 8 → l[i]? = some (l.getD i 0) := fun l hl => by
      rw [List.getD_eq_getElem?_getD, List.getElem?_eq_getElem (by omega)]; rfl
    repeat refine s1 ?_
    refine r_idxA rfl rfl (by omega) (by omega) rfl ?_
    refine ld (v := w32 ((H1 v h i).getD i 0)) rfl (by rw [show 1 + (i : Int).toNat * 1 = 1 + i by simp]; exact hc_h (at1 _ hh8)) ?_
    repeat refine s1 ?_
    refine r_idxA rfl rfl (by omega) (by omega) rfl ?_
    refine ld (v := w32 (v.getD i 0)) rfl (by rw [show 0 + (i : Int).toNat * 1 = i by simp, List.getElem?_map, at1 _ hv8]; rfl) ?_
    refine r_iop rfl rfl rfl rfl ?_
    repeat refine s1 ?_
    refine r_idxA rfl rfl (by omega) (by omega) rfl ?_
    refine so rfl rfl ?_ (by simp [h64, hh8]; omega)
    rw [show 1 + (i : Int).toNat * 1 = 1 + i by simp, hs_h (by omega)]
    repeat refine s1 ?_
    exact j_again (i + 1) (by omega) (by omega) ⟨rfl, rfl, rfl, trivial⟩ (Ent.refl _)
  have e8 : i = 8 := by omega
  subst e8
  rw [hT]
  have hh8 : (H1 v h 8).length = 8 := by rw [H1_len, h8]
  generalize H1 v h 8 = h' at *
  repeat refine s1 ?_
  refine so (hl := ⟨hs_n hh8 h64 0⟩) rfl rfl ?_ (by simp [h64, hh8])
  repeat refine s1 ?_
  exact f0' ()
end Go.Proofs.YtcnpkmdooekmgaaGreatDoor
namespace Go.Proofs.YtcnpkmdooekmgaaGreatDoor
open Go Sl
attribute [local irreducible] cw sw J Exit.then Exit.inBlock Exit.noGoto bodyPost swG swL permL
structure HS where
  h : List Int
  buf : List Nat
  n : Nat
  cnt : Nat
structure HS.ok (s : HS) : Prop where
  h8 : s.h.length = 8
  h64 : s.buf.length = 64
  hb : ∀ x ∈ s.buf, x < 256
  hn : s.n < 64
  hr : ∀ x ∈ s.h, 0 ≤ x ∧ x < 4294967296
abbrev hash (p : Nat) (s : HS) : Assn := hobj p s.h s.buf s.n s.cnt
theorem set_all {α : Type} {p : α → Prop} {l : List α} {i : Nat} {x : α} (hl : ∀ y ∈ l, p y) (hx : p x) : ∀ y ∈ l.set i x, p y := fun y hy => by
  rcases List.mem_or_eq_of_mem_set hy with hy | rfl
  · exact hl y hy
  · exact hx
theorem wr_rng (x : Int) : 0 ≤ wr x ∧ wr x < 4294967296 := by simp only [wr, IntKind.wrap, IntKind.signed, IntKind.bits]; simp; omega
theorem takeM_rng {h : List Int} {buf : List Nat} (hr : ∀ x ∈ h, 0 ≤ x ∧ x < 4294967296) : ∀ x ∈ takeM h buf, 0 ≤ x ∧ x < 4294967296 := by
  have : ∀ (v : List Int) i, ∀ x ∈ H1 v h i, 0 ≤ x ∧ x < 4294967296 := fun v i => by
    induction i with
    | zero => exact hr
    | succ i ih => exact set_all ih (wr_rng _)
  exact this _ _
theorem takeM_len (h : List Int) (buf : List Nat) : (takeM h buf).length = h.length := H1_len _ _ _
/-- bytes behind a text, by pieces that fit. -/
noncomputable def wrM : Nat → HS → List Nat → HS
  | 0, s, _ => s
  | k + 1, s, b => if b = [] then s else
    let m := min (64 - s.n) b.length
    let buf := s.buf.take s.n ++ b.take m ++ s.buf.drop (s.n + m)
    wrM k (if s.n + m = 64 then ⟨takeM s.h buf, buf, 0, s.cnt⟩ else ⟨s.h, buf, s.n + m, s.cnt⟩) (b.drop m)
theorem hs_copy {h : List Int} {buf b : List Nat} {n m : Nat} {k cnt : Int} (h8 : h.length = 8) (h64 : buf.length = 64) (hn : n + m ≤ 64) :
    (hcells h buf k cnt).take (9 + n) ++ (b.map u8).take m ++ (hcells h buf k cnt).drop (9 + n + m) = hcells h (buf.take n ++ b.take m ++ buf.drop (n + m)) k cnt := by
  have e1 : ∀ j, j ≤ 64 → (hcells h buf k cnt).take (9 + j) = .bool true :: (h.map w32 ++ (buf.take j).map u8) := fun j hj => by
    rw [show 9 + j = ((h.map w32).length + j) + 1 by simp [h8]; omega, hcells, List.take_succ_cons, List.take_length_add_append, List.take_append_of_le_length (by simp [h64]; omega), List.map_take]
  have e2 : ∀ j, j ≤ 64 → (hcells h buf k cnt).drop (9 + j) = (buf.drop j).map u8 ++ [.int .i64 k, .int .u64 cnt] := fun j hj => by
    rw [show 9 + j = ((h.map w32).length + j) + 1 by simp [h8]; omega, hcells, List.drop_succ_cons, List.drop_length_add_append, List.drop_append_of_le_length (by simp [h64]; omega), List.map_drop]
  rw [e1 n (by omega), Nat.add_assoc, e2 (n + m) hn]
  simp [List.map_take]
theorem hnew_c (Φ : Base) : Sl.Fn Tryz.prog Φ F.sha_New [] [] (fun _ : Nat => True) (fun p => ptr p) (fun p => [hash p ⟨startL, List.replicate 64 0, 0, 0⟩]) := by
  refine fo fun F => ?_
  repeat refine s1 ?_
  refine cl (start_c Φ) ?_
  refine r_build (cells := hcells startL (List.replicate 64 0) ((0 : Nat) : Int) 0) rfl (by kernel_rfl) rfl ?_
  refine r_box (cs := hcells startL (List.replicate 64 0) ((0 : Nat) : Int) 0) rfl rfl rfl rfl (fun p => ?_)
  repeat refine s1 ?_
  exact f1 p
theorem hwrite_c (p : Nat) (s : HS) (hs : s.ok) (a : Option Addr) (len cap : Nat) (b : List Nat) (hl : b.length = len) (hb : ∀ x ∈ b, x < 256) (hbig : len ≤ 1000000) (Φ : Base) :
    Sl.Fn Tryz.prog Φ F.sha_Hash_Write [ptr p, .slice a len cap] [hash p s, brow a len cap b] (fun _ : Unit => True) (fun _ => i64 0)
      (fun _ => [hash p (wrM len { s with cnt := (s.cnt + len) % 18446744073709551616 } b)]) := by
  refine fo fun F => ?_
  repeat refine s1 ?_
  refine ld (v := .int .u64 s.cnt) rfl (hc_c hs.h8 hs.h64) ?_
  repeat refine s1 ?_
  rw [wrap64 (n := len) (by omega)]
  refine r_iop rfl rfl rfl rfl ?_
  rw [show ((s.cnt : Int) + (len : Int)) = ((s.cnt + len : Nat) : Int) by simp, wrapM64]
  repeat refine s1 ?_
  refine so (hl := ⟨hs_c hs.h8 hs.h64 _⟩) rfl rfl ?_ (by simp [hs.h8, hs.h64])
  generalize (s.cnt + len) % 18446744073709551616 = cq
  repeat refine s1 ?_
  refine t_loop (σ := Nat × HS × Option Addr × Nat × List Nat) (fun x => [(1, .slice x.2.2.1 x.2.2.2.2.length x.2.2.2.1), (0, ptr p)]) (fun x => [hash p x.2.1, brow x.2.2.1 x.2.2.2.2.length x.2.2.2.1 x.2.2.2.2] ++ F)
    (fun x => x.2.1.ok ∧ x.2.2.2.2.length ≤ x.1 ∧ x.2.2.2.2.length ≤ len ∧ (∀ y ∈ x.2.2.2.2, y < 256) ∧ wrM x.1 x.2.1 x.2.2.2.2 = wrM len { s with cnt := cq } b) (fun x => x.2.2.2.2.length)
    (len, { s with cnt := cq }, a, cap, b) ⟨⟨hs.h8, hs.h64, hs.hb, hs.hn, hs.hr⟩, by simp [hl], by simp [hl], hb, rfl⟩ ⟨by rw [hl]; rfl, rfl, trivial⟩ (by rw [hl]; exact Ent.refl _) ?_
  rintro ⟨k, t, a', cap', b'⟩ ⟨ht, hk, hlen, hb', heq⟩
  dsimp only [List.cons_append, List.nil_append] at *
  repeat refine s1 ?_
  refine r_icmp rfl rfl rfl rfl ?_
  repeat refine s1 ?_
  refine t_condS rfl (fun hlt => ?_) (fun hlt => ?_)
  · have hpos : 0 < b'.length := by omega
    have hn := ht.hn
    repeat refine s1 ?_
    refine ld (v := i64 t.n) rfl (hc_n ht.h8 ht.h64) ?_
    refine r_pieceA t.n 64 64 rfl (.inr ⟨.i64, rfl⟩) (.inl ⟨rfl, rfl, rfl⟩) (.inl ⟨rfl, rfl⟩) (by omega) (by decide) (by decide) rfl ?_
    rw [if_neg (by omega), Nat.mul_one]
    repeat refine s1 ?_
    refine r_copyP (cur' := hcells t.h (t.buf.take t.n ++ b'.take (min b'.length (64 - t.n)) ++ t.buf.drop (t.n + min b'.length (64 - t.n))) t.n t.cnt) rfl rfl (by simp [ht.h8, ht.h64]; omega) (by simp [Value.oneCell']) (hs_copy ht.h8 ht.h64 (by omega)) rfl (blt_any rfl) ?_
    generalize hm : min b'.length (64 - t.n) = m
    generalize hbf : t.buf.take t.n ++ b'.take m ++ t.buf.drop (t.n + m) = buf
    have hm' : min (64 - t.n) b'.length = m := by omega
    have hbl : buf.length = 64 := by rw [← hbf]; simp [ht.h64]; omega
    have hbb : ∀ y ∈ buf, y < 256 := fun y hy => by
      rw [← hbf] at hy
      rcases List.mem_append.1 hy with hy | hy
      · rcases List.mem_append.1 hy with hy | hy
        · exact ht.hb y (List.mem_of_mem_take hy)
        · exact hb' y (List.mem_of_mem_take hy)
      · exact ht.hb y (List.mem_of_mem_drop hy)
    obtain ⟨k0, rfl⟩ : ∃ k0, k = k0 + 1 := ⟨k - 1, by omega⟩
    rw [wrM, if_neg (by intro h; rw [h] at hpos; simp at hpos)] at heq
    dsimp only at heq
    rw [hm', hbf] at heq
    repeat refine s1 ?_
    refine ld (v := i64 t.n) rfl (hc_n ht.h8 hbl) ?_
    repeat refine s1 ?_
    refine r_addN rfl rfl (by omega) rfl ?_
    repeat refine s1 ?_
    refine so (hl := ⟨hs_n ht.h8 hbl _⟩) rfl rfl ?_ (by simp [ht.h8, hbl])
    refine j_head (brow a' b'.length cap' b') ?_
    refine j_leni (fun _ hc _ => ?_)
    repeat refine s1 ?_
    refine r_piece m b'.length cap' rfl (.inr ⟨.i64, rfl⟩) (.inl ⟨rfl, rfl, rfl⟩) (.inl ⟨rfl, rfl⟩) (by omega) (by omega) (by omega) rfl ?_
    refine j_ent (Ent.piece (lo := m) (hi := b'.length) (mx := cap') (by omega) (Nat.le_refl _) (by omega) rfl _) ?_
    generalize (if cap' = m then a' else a'.map (·.add (m * 1))) = a2
    have hdl : (b'.drop m).length = b'.length - m := by simp
    have he : ((b'.map u8).drop (m * 1)).take ((b'.length - m) * 1) = (b'.drop m).map u8 := by
      rw [Nat.mul_one, Nat.mul_one, List.take_of_length_le (by simp), List.map_drop]
    rw [he]
    repeat refine s1 ?_
    refine ld (v := i64 (t.n + m)) rfl (hc_n ht.h8 hbl) ?_
    repeat refine s1 ?_
    refine r_icmp rfl rfl rfl rfl ?_
    repeat refine s1 ?_
    have hbd : ∀ y ∈ b'.drop m, y < 256 := fun y hy => hb' y (List.mem_of_mem_drop hy)
    rw [← hdl]
    refine t_condS rfl (fun hq => ?_) (fun hq => ?_)
    · rw [if_pos (by omega)] at heq
      repeat refine s1 ?_
      refine cl (take_c p t.h buf ((t.n + m : Nat) : Int) t.cnt ht.h8 hbl hbb Φ) ?_
      repeat refine s1 ?_
      exact j_again (k0, ⟨takeM t.h buf, buf, 0, t.cnt⟩, a2, cap' - m, b'.drop m) ⟨⟨by rw [takeM_len]; exact ht.h8, hbl, hbb, by show 0 < 64; decide, takeM_rng ht.hr⟩, by simp; omega, by simp; omega, hbd, heq⟩ (by simp; omega) ⟨rfl, rfl, trivial⟩ (by dsimp only [List.cons_append, List.nil_append]; exact Le.ent)
    · rw [if_neg (by omega)] at heq
      repeat refine s1 ?_
      exact j_again (k0, ⟨t.h, buf, t.n + m, t.cnt⟩, a2, cap' - m, b'.drop m) ⟨⟨ht.h8, hbl, hbb, by show t.n + m < 64; omega, ht.hr⟩, by simp; omega, by simp; omega, hbd, heq⟩ (by simp; omega) ⟨rfl, rfl, trivial⟩ (by dsimp only [List.cons_append, List.nil_append]; exact Le.ent)
  · have h0 : b' = [] := List.length_eq_zero_iff.1 (by omega)
    subst h0
    have hend : ∀ (k : Nat) (t : HS), wrM k t [] = t := fun k t => by cases k <;> simp [wrM]
    rw [hend] at heq
    subst heq
    repeat refine s1 ?_
    exact f1 ()
theorem wrM_ok : ∀ (k : Nat) {s : HS} {b : List Nat}, s.ok → (∀ x ∈ b, x < 256) → (wrM k s b).ok
  | 0, _, _, h, _ => h
  | k + 1, s, b, h, hb => by
    unfold wrM
    split
    · exact h
    · dsimp only
      have hl : (s.buf.take s.n ++ b.take (min (64 - s.n) b.length) ++ s.buf.drop (s.n + min (64 - s.n) b.length)).length = 64 := by have := h.h64; have := h.hn; simp; omega
      have hm : ∀ x ∈ s.buf.take s.n ++ b.take (min (64 - s.n) b.length) ++ s.buf.drop (s.n + min (64 - s.n) b.length), x < 256 := fun y hy => by
        rcases List.mem_append.1 hy with hy | hy
        · rcases List.mem_append.1 hy with hy | hy
          · exact h.hb y (List.mem_of_mem_take hy)
          · exact hb y (List.mem_of_mem_take hy)
        · exact h.hb y (List.mem_of_mem_drop hy)
      refine wrM_ok k ?_ (fun x hx => hb x (List.mem_of_mem_drop hx))
      split
      · exact ⟨by rw [takeM_len]; exact h.h8, hl, hm, by show 0 < 64; decide, takeM_rng h.hr⟩
      · exact ⟨h.h8, hl, hm, by show s.n + _ < 64; have := h.hn; omega, h.hr⟩
noncomputable def put1 (s : HS) (x : Nat) : HS := wrM 1 { s with cnt := (s.cnt + 1) % 18446744073709551616 } [x]
noncomputable def zM : Nat → HS → HS
  | 0, s => s
  | k + 1, s => if s.n = 56 then s else zM k (put1 s 0)
noncomputable def sumM (s : HS) : List Nat :=
  let s2 := zM 64 (put1 s 128)
  (wrM 8 { s2 with cnt := (s2.cnt + 8) % 18446744073709551616 } (be 8 (8 * s.cnt % 18446744073709551616))).h.flatMap fun x => be 4 x.toNat
/-- a text's sum. -/
noncomputable def bothM (l : List (List Nat)) : List Nat := sumM (l.foldl (fun s b => wrM b.length { s with cnt := (s.cnt + b.length) % 18446744073709551616 } b) ⟨startL, List.replicate 64 0, 0, 0⟩)
noncomputable def shaM (b : List Nat) : List Nat := bothM [b]
theorem put1_ok {s : HS} {x : Nat} (h : s.ok) (hx : x < 256) : (put1 s x).ok := wrM_ok 1 ⟨h.h8, h.h64, h.hb, h.hn, h.hr⟩ (fun y hy => by simp at hy; omega)
theorem put1_n {s : HS} {x : Nat} (h : s.ok) : (put1 s x).n = if s.n = 63 then 0 else s.n + 1 := by
  have := h.hn
  unfold put1 wrM
  rw [if_neg (by simp)]
  dsimp only
  rw [show min (64 - s.n) [x].length = 1 by simp; omega]
  unfold wrM
  split
  · rw [if_pos (by omega)]
  · rw [if_neg (by omega)]
theorem start_ok : HS.ok ⟨startL, List.replicate 64 0, 0, 0⟩ := ⟨start_len, by simp, fun x hx => by rw [(List.mem_replicate.1 hx).2]; omega, by decide, by
  have : (startL.all fun x => decide (0 ≤ x ∧ x < 4294967296)) = true := by kernel_rfl
  intro x hx
  exact of_decide_eq_true (List.all_eq_true.1 this x hx)⟩
end Go.Proofs.YtcnpkmdooekmgaaGreatDoor
namespace Go.Proofs.YtcnpkmdooekmgaaGreatDoor
open Go Sl
attribute [local irreducible] cw sw J Exit.then Exit.inBlock Exit.noGoto bodyPost swG swL permL
def bytes' (n : Nat) (l : List Nat) : Prop := l.length = n ∧ ∀ x ∈ l, x < 256
theorem hc_len {h : List Int} {buf : List Nat} {n cnt : Int} (h8 : h.length = 8) (h64 : buf.length = 64) : (hcells h buf n cnt).length = 75 := by simp [h8, h64]
theorem hs_cells {h : List Int} {buf : List Nat} {n cnt : Int} : ∀ v ∈ hcells h buf n cnt, v.oneCell' = true := by
  intro v hv
  simp only [hcells, List.mem_cons, List.mem_append, List.mem_map, List.not_mem_nil, or_false] at hv
  rcases hv with rfl | ⟨x, _, rfl⟩ | ⟨x, _, rfl⟩ | rfl | rfl <;> rfl
def outW (h : List Int) (i : Nat) : List Nat := (h.take i).flatMap (fun x => be 4 x.toNat) ++ List.replicate (32 - 4 * i) 0
theorem outW_len {h : List Int} (h8 : h.length = 8) {i : Nat} (hi : i ≤ 8) : (outW h i).length = 32 := by
  have : ∀ l : List Int, (l.flatMap fun x => be 4 x.toNat).length = 4 * l.length := fun l => by
    induction l with
    | nil => rfl
    | cons a l ih => simp only [List.flatMap_cons, List.length_append, be_len, ih, List.length_cons]; omega
  simp [outW, this, h8]; omega
theorem outW_next {h : List Int} (h8 : h.length = 8) {i : Nat} (hi : i < 8) : (outW h i).take (4 * i) ++ be 4 (h.getD i 0).toNat ++ (outW h i).drop (4 * i + 4) = outW h (i + 1) := by
  have hl : ∀ l : List Int, (l.flatMap fun x => be 4 x.toNat).length = 4 * l.length := fun l => by
    induction l with
    | nil => rfl
    | cons a l ih => simp only [List.flatMap_cons, List.length_append, be_len, ih, List.length_cons]; omega
  have h1 : ((h.take i).flatMap fun x => be 4 x.toNat).length = 4 * i := by rw [hl]; simp; omega
  unfold outW
  rw [List.take_append_of_le_length (by omega), List.take_of_length_le (by omega), ← h1, List.drop_length_add_append, h1, List.drop_replicate, List.take_add_one, List.flatMap_append]
  rw [List.getD_eq_getElem?_getD, List.getElem?_eq_getElem (by omega)]
  simp only [Option.toList_some, List.flatMap_cons, List.flatMap_nil, List.append_nil, Option.getD_some, List.append_assoc]
  congr 3
theorem hput1_c (p : Nat) (s : HS) (hs : s.ok) (b x : Nat) (hx : x < 256) (Φ : Base) :
    Sl.Fn Tryz.prog Φ F.sha_Hash_Write [ptr p, .slice (some ⟨b, 0, none⟩) 1 1] [hash p s, brow (some ⟨b, 0, none⟩) 1 1 [x]] (fun _ : Unit => True) (fun _ => i64 0) (fun _ => [hash p (put1 s x)]) :=
  hwrite_c p s hs (some ⟨b, 0, none⟩) 1 1 [x] rfl (by simpa using hx) (by omega) Φ
theorem hsum_c (p : Nat) (s : HS) (hs : s.ok) (Φ : Base) :
    Sl.Fn Tryz.prog Φ F.sha_Hash_Sum [ptr p] [hash p s] (fun _ : Unit => True) (fun _ => .tuple #[.agg ((sumM s).map u8).toArray, i64 0]) (fun _ => [hash p s]) := by
  refine fo fun F => ?_
  repeat refine s1 ?_
  refine r_alloc (cs := (List.replicate 32 0).map u8) rfl rfl rfl (fun t2 => ?_)
  repeat refine s1 ?_
  refine r_alloc (cs := (List.replicate 32 0).map u8) rfl rfl rfl (fun t4 => ?_)
  repeat refine s1 ?_
  refine r_loadW (vs := hcells s.h s.buf s.n s.cnt) rfl (hc_len hs.h8 hs.h64) rfl rfl ?_
  refine r_alloc (cs := .bool false :: (List.replicate 8 (w32 0) ++ (List.replicate 64 (u8 0) ++ [i64 0, .int .u64 0]))) rfl rfl rfl (fun t5 => ?_)
  refine r_storeW rfl rfl (hc_len hs.h8 hs.h64) (by rfl) hs_cells rfl ?_
  repeat refine s1 ?_
  refine ld (v := .int .u64 s.cnt) rfl (hc_c hs.h8 hs.h64) ?_
  refine r_iop rfl rfl rfl rfl ?_
  rw [show (8 * (s.cnt : Int)) = ((8 * s.cnt : Nat) : Int) by simp, wrapM64]
  refine cx (put64_c (8 * s.cnt % 18446744073709551616) (by omega) Φ) fun b6 _ => ?_
  refine fz ?_
  repeat refine s1 ?_
  refine r_build1s [.const (.int .u8 128)] [u8 128] rfl rfl (by simp [Value.oneCell']) (by simp) rfl rfl rfl (fun b7 => ?_)
  refine fz (xs := [128].map u8) ?_
  refine cl (hput1_c t5 s hs b7 128 (by omega) Φ) ?_
  have hs1 : (put1 s 128).ok := put1_ok hs (by omega)
  repeat refine s1 ?_
  refine t_loop (σ := Nat × HS) (fun x => [(6, .slice (some ⟨b6, 0, none⟩) 8 8), (5, ptr t5), (4, ptr t4), (2, ptr t2), (3, i64 0)])
    (fun x => [hash t5 x.2, brow (some ⟨b6, 0, none⟩) 8 8 (be 8 (8 * s.cnt % 18446744073709551616)), pt t4 (.cells ((List.replicate 32 0).map u8).toArray T.api_Sum (0, 0)), pt t2 (.cells ((List.replicate 32 0).map u8).toArray T.api_Sum (0, 0)), hash p s] ++ F)
    (fun x => x.2.ok ∧ (120 - x.2.n) % 64 < x.1 ∧ zM x.1 x.2 = zM 64 (put1 s 128)) (fun x => x.1) (64, put1 s 128) ⟨hs1, by show _ < 64; omega, rfl⟩ ⟨rfl, rfl, rfl, rfl, rfl, trivial⟩ (by dsimp only [List.cons_append, List.nil_append]; exact Le.ent) ?_
  rintro ⟨k, t⟩ ⟨ht, hk, heq⟩
  dsimp only [List.cons_append, List.nil_append] at *
  have hn := ht.hn
  obtain ⟨k0, rfl⟩ : ∃ k0, k = k0 + 1 := ⟨k - 1, by omega⟩
  repeat refine s1 ?_
  refine ld (v := i64 t.n) rfl (hc_n ht.h8 ht.h64) ?_
  refine r_icmp rfl rfl rfl rfl ?_
  repeat refine s1 ?_
  refine t_condSN rfl (fun hq => ?_) (fun hq => ?_)
  · rw [zM, if_neg (by omega)] at heq
    repeat refine s1 ?_
    refine r_build1s [.const (.int .u8 0)] [u8 0] rfl rfl (by simp [Value.oneCell']) (by simp) rfl rfl rfl (fun b8 => ?_)
    refine fz (xs := [0].map u8) ?_
    refine cl (hput1_c t5 t ht b8 0 (by omega) Φ) ?_
    repeat refine s1 ?_
    refine j_again (k0, put1 t 0) ⟨put1_ok ht (by omega), ?_, heq⟩ (by show k0 < k0 + 1; omega) ⟨rfl, rfl, rfl, rfl, rfl, trivial⟩ (by dsimp only [List.cons_append, List.nil_append]; exact Le.ent)
    show (120 - (put1 t 0).n) % 64 < k0
    rw [put1_n ht]
    split <;> omega
  rw [zM, if_pos (by omega)] at heq
  have hm : sumM s = (wrM 8 { t with cnt := (t.cnt + 8) % 18446744073709551616 } (be 8 (8 * s.cnt % 18446744073709551616))).h.flatMap fun x => be 4 x.toNat := by unfold sumM; rw [← heq]
  repeat refine s1 ?_
  refine cl (hwrite_c t5 t ht (some ⟨b6, 0, none⟩) 8 8 (be 8 (8 * s.cnt % 18446744073709551616)) (be_len _ _) (be_lt _ _) (by omega) Φ) ?_
  have ho := wrM_ok 8 (s := { t with cnt := (t.cnt + 8) % 18446744073709551616 }) (b := be 8 (8 * s.cnt % 18446744073709551616)) ⟨ht.h8, ht.h64, ht.hb, ht.hn, ht.hr⟩ (be_lt _ _)
  generalize wrM 8 { t with cnt := (t.cnt + 8) % 18446744073709551616 } (be 8 (8 * s.cnt % 18446744073709551616)) = o at *
  repeat refine s1 ?_
  refine r_loadA (vs := o.h.map w32) rfl (by simp [ho.h8]) (fun j v hj => ?_) rfl rfl ?_
  · rw [List.getElem?_map] at hj
    obtain ⟨x, hx, rfl⟩ := Option.map_eq_some_iff.1 hj
    have := hc_h (buf := o.buf) (n := o.n) (cnt := o.cnt) hx
    simpa using this
  repeat refine s1 ?_
  refine t_loop (σ := Nat) (fun i => [(37, i64 i), (36, .agg (o.h.map w32).toArray), (4, ptr t4), (2, ptr t2), (3, i64 0)])
    (fun i => [pt t4 (.cells ((outW o.h i).map u8).toArray T.api_Sum (0, 0)), pt t2 (.cells ((List.replicate 32 0).map u8).toArray T.api_Sum (0, 0)), hash p s] ++ F) (fun i => i ≤ 8) (fun i => 8 - i) 0 (by omega) ⟨rfl, rfl, rfl, rfl, rfl, trivial⟩ (by rw [show outW o.h 0 = List.replicate 32 0 from rfl]; dsimp only [List.cons_append, List.nil_append]; exact Le.ent) ?_
  intro i hi
  dsimp only [List.cons_append, List.nil_append]
  repeat refine s1 ?_
  refine r_icmp rfl rfl rfl rfl ?_
  repeat refine s1 ?_
  refine t_condS rfl (fun hlt => ?_) (fun hlt => ?_)
  · have hx : o.h[i]? = some (o.h.getD i 0) := by rw [List.getD_eq_getElem?_getD, List.getElem?_eq_getElem (by rw [ho.h8]; omega)]; rfl
    have hr := ho.hr _ (List.mem_of_getElem? hx)
    repeat refine s1 ?_
    refine r_indexV (v := w32 (o.h.getD i 0)) rfl rfl (by omega) (by rw [List.getElem?_toArray, List.getElem?_map, hx]; rfl) rfl ?_
    repeat refine s1 ?_
    refine r_mulN (m := 4) (n := i) rfl rfl (by omega) rfl ?_
    refine r_pieceA (4 * i) 32 32 rfl (.inr ⟨.i64, rfl⟩) (.inl ⟨rfl, rfl, rfl⟩) (.inl ⟨rfl, rfl⟩) (by omega) (by decide) (by decide) rfl ?_
    rw [if_neg (by omega), Nat.mul_one, Nat.zero_add]
    repeat refine s1 ?_
    rw [show w32 (o.h.getD i 0) = .int .u32 (((o.h.getD i 0).toNat : Nat) : Int) by rw [Int.toNat_of_nonneg hr.1]]
    refine cx (put32_c (o.h.getD i 0).toNat (by omega) Φ) fun b9 _ => ?_
    refine r_copyP (cur' := (outW o.h (i + 1)).map u8) rfl rfl (by simp [outW_len ho.h8 (by omega : i ≤ 8)]; omega) (by simp [Value.oneCell']) (by
      rw [show min 4 (32 - 4 * i) = 4 by omega, ← outW_next ho.h8 (by omega), List.take_of_length_le (l := (be 4 _).map u8) (by simp [be_len])]
      simp [List.map_take, List.map_drop]) rfl (blt_any rfl) ?_
    repeat refine s1 ?_
    exact j_again (i + 1) (by omega) (by omega) ⟨rfl, rfl, rfl, rfl, rfl, trivial⟩ Le.ent
  · have e8 : i = 8 := by omega
    subst e8
    have hout : outW o.h 8 = sumM s := by
      rw [hm, outW, List.take_of_length_le (by rw [ho.h8]; omega)]; simp
    have hol := outW_len ho.h8 (Nat.le_refl 8)
    rw [hout] at hol ⊢
    repeat refine s1 ?_
    refine r_loadW (vs := (sumM s).map u8) rfl (by simpa using hol) rfl rfl ?_
    refine r_storeW rfl rfl (by simpa using hol) (by simp) (by simp [Value.oneCell']) rfl ?_
    repeat refine s1 ?_
    exact j_fin rfl (.cons (rv_agg rfl (by simpa using hol)) (.cons (rv_tmp rfl) .nil)) () rfl trivial
theorem bothM_len (l : List (List Nat)) (hl : ∀ b ∈ l, ∀ x ∈ b, x < 256) : bytes' 32 (bothM l) := by
  have h0 : ∀ (l : List (List Nat)) (s : HS), s.ok → (∀ b ∈ l, ∀ x ∈ b, x < 256) → (l.foldl (fun s b => wrM b.length { s with cnt := (s.cnt + b.length) % 18446744073709551616 } b) s).ok := fun l => by
    induction l with
    | nil => exact fun s h _ => h
    | cons b l ih => exact fun s h hb => ih _ (wrM_ok _ ⟨h.h8, h.h64, h.hb, h.hn, h.hr⟩ (hb b (by simp))) (fun c hc => hb c (by simp [hc]))
  have h1 := h0 l _ start_ok hl
  unfold bothM
  generalize List.foldl _ _ l = s at h1 ⊢
  have h2 : ∀ (k : Nat) (s : HS), s.ok → (zM k s).ok := fun k => by
    induction k with
    | zero => exact fun s h => h
    | succ k ih => intro s h; unfold zM; split; exact h; exact ih _ (put1_ok h (by omega))
  have h3 := h2 64 _ (put1_ok (x := 128) h1 (by omega))
  have h4 := wrM_ok 8 (s := { zM 64 (put1 s 128) with cnt := ((zM 64 (put1 s 128)).cnt + 8) % 18446744073709551616 }) (b := be 8 (8 * s.cnt % 18446744073709551616)) ⟨h3.h8, h3.h64, h3.hb, h3.hn, h3.hr⟩ (be_lt _ _)
  refine ⟨?_, fun x hx => ?_⟩
  · have := outW_len h4.h8 (Nat.le_refl 8)
    rw [outW, List.take_of_length_le (by rw [h4.h8]; omega), show List.replicate (32 - 4 * 8) 0 = ([] : List Nat) from rfl, List.append_nil] at this
    exact this
  · obtain ⟨y, _, hx⟩ := List.mem_flatMap.1 hx
    exact be_lt _ _ x hx
theorem sha_bytes (b : List Nat) (hb : ∀ x ∈ b, x < 256) : bytes' 32 (shaM b) := bothM_len [b] (fun c hc x hx => by simp at hc; subst hc; exact hb x hx)
theorem both1_c (b' : Nat) (a : Option Addr) (len cap : Nat) (b : List Nat) (hl : b.length = len) (hb : ∀ x ∈ b, x < 256) (hbig : len ≤ 1000000) (Φ : Base) :
    Sl.Fn Tryz.prog Φ F.sha_Both [.slice (some ⟨b', 0, none⟩) 1 1] [isl (some ⟨b', 0, none⟩) 1 1 T.sl_uint8 1 [.slice a len cap], brow a len cap b] (fun _ : Unit => True) (fun _ => .agg ((shaM b).map u8).toArray) (fun _ => []) := by
  refine fo fun F => ?_
  have hsl := (sha_bytes b hb).1
  repeat refine s1 ?_
  refine r_alloc (cs := (List.replicate 32 0).map u8) rfl rfl rfl (fun t2 => ?_)
  repeat refine s1 ?_
  refine cx (hnew_c Φ) fun p _ => ?_
  repeat refine s1 ?_
  have hok : HS.ok (wrM len { h := startL, buf := List.replicate 64 0, n := 0, cnt := ((0 + len) % 18446744073709551616) } b) := wrM_ok _ ⟨start_ok.h8, start_ok.h64, start_ok.hb, start_ok.hn, start_ok.hr⟩ hb
  generalize hq1 : wrM len { h := startL, buf := List.replicate 64 0, n := 0, cnt := ((0 + len) % 18446744073709551616) } b = q1 at hok
  have hm : shaM b = sumM q1 := by rw [← hq1, ← hl]; simp [shaM, bothM]
  refine t_loop (σ := Nat × HS) (fun x => [(11, i64 x.1), (10, i64 1), (9, .slice (some ⟨b', 0, none⟩) 1 1), (3, ptr p), (2, ptr t2)]) (fun x => [hash p x.2, pt t2 (.cells ((List.replicate 32 0).map u8).toArray T.api_Sum (0, 0)), isl (some ⟨b', 0, none⟩) 1 1 T.sl_uint8 1 [.slice a len cap], brow a len cap b] ++ F)
    (fun x => x = (0, ⟨startL, List.replicate 64 0, 0, 0⟩) ∨ x = (1, q1)) (fun x => 1 - x.1) (0, ⟨startL, List.replicate 64 0, 0, 0⟩) (.inl rfl) ⟨rfl, rfl, rfl, rfl, rfl, trivial⟩ (by dsimp only [List.cons_append, List.nil_append]; exact Le.ent) ?_
  rintro x (rfl | rfl)
  · dsimp only [List.cons_append, List.nil_append]
    repeat refine s2 ?_
    refine r_idx rfl rfl (by omega) (by omega) rfl ?_
    refine r_loadI (n := 1) (cap := 1) (E := T.sl_uint8) (s := 1) (xs := [.slice a len cap]) (off := 0) rfl (j := 0) (v := .slice a len cap) (by simp) rfl rfl rfl ?_
    repeat refine s1 ?_
    refine cl (hwrite_c p ⟨startL, List.replicate 64 0, 0, 0⟩ start_ok a len cap b hl hb hbig Φ) ?_
    rw [hq1]
    repeat refine s1 ?_
    exact j_again (1, q1) (.inr rfl) (by simp) ⟨rfl, rfl, rfl, rfl, rfl, trivial⟩ (by dsimp only [List.cons_append, List.nil_append]; exact Le.ent)
  · dsimp only [List.cons_append, List.nil_append]
    repeat refine s2 ?_
    refine cl (hsum_c p q1 hok Φ) ?_
    rw [← hm]
    clear hm
    generalize shaM b = m at *
    repeat refine s1 ?_
    refine r_alloc (cs := (List.replicate 32 0).map u8) rfl rfl rfl (fun t6 => ?_)
    refine r_storeW rfl rfl (by simpa using hsl) (by simp) (by simp [Value.oneCell']) rfl ?_
    repeat refine s1 ?_
    refine r_loadW (vs := m.map u8) rfl (by simpa using hsl) rfl rfl ?_
    refine r_storeW rfl rfl (by simpa using hsl) (by simp) (by simp [Value.oneCell']) rfl ?_
    repeat refine s1 ?_
    exact j_fin rfl (.cons (rv_agg rfl (by simpa using hsl)) .nil) () rfl trivial
theorem sha_c (a : Option Addr) (len cap : Nat) (b : List Nat) (hl : b.length = len) (hb : ∀ x ∈ b, x < 256) (hbig : len ≤ 1000000) (Φ : Base) :
    Sl.Fn Tryz.prog Φ F.sha_Sum [.slice a len cap] [brow a len cap b] (fun _ : Unit => True) (fun _ => .agg ((shaM b).map u8).toArray) (fun _ => []) := by
  refine fo fun F => ?_
  have hsl := (sha_bytes b hb).1
  repeat refine s1 ?_
  refine r_alloc (cs := (List.replicate 32 0).map u8) rfl rfl rfl (fun t2 => ?_)
  repeat refine s1 ?_
  refine r_build1s [.tmp 3] [.slice a len cap] rfl rfl (by simp [Value.oneCell']) (by simp) rfl rfl rfl (fun b' => ?_)
  refine fz ?_
  refine cl (both1_c b' a len cap b hl hb hbig Φ) ?_
  generalize shaM b = m at *
  refine r_storeW rfl rfl (by simpa using hsl) (by simp) (by simp [Value.oneCell']) rfl ?_
  repeat refine s1 ?_
  exact j_fin rfl (.cons (rv_agg rfl (by simpa using hsl)) .nil) () rfl trivial
end Go.Proofs.YtcnpkmdooekmgaaGreatDoor
namespace Go.Proofs.YtcnpkmdooekmgaaGreatDoor
open Go Sl
/-- rows of bytes that nobody turns: by their headers. -/
def rows (hs : List Value) (ts : List (List Nat)) : Assn :=
  im' (fun im => hs.length = ts.length ∧ ∀ (i : Nat) (bs : List Nat), ts[i]? = some bs → ∃ a cap, hs[i]? = some (.slice a bs.length cap) ∧ (brow a bs.length cap bs).sat im Hp.emp)
    (fun hm ⟨h1, h2⟩ => ⟨h1, fun i bs hb => let ⟨a, cap, h3, h4⟩ := h2 i bs hb; ⟨a, cap, h3, (brow a bs.length cap bs).mono hm h4⟩⟩)
instance (hs : List Value) (ts : List (List Nat)) : Pers (rows hs ts) := ⟨fun _ _ h => h⟩
theorem Ent.rowsNil (L : List Assn) : Ent L (rows [] [] :: L) := fun _ h s => ⟨Hp.emp, h, Hp.emp_le _, Hp.le_refl _, Hp.emp_dis _, ⟨rfl, fun i bs hb => by simp at hb⟩, s⟩
theorem Ent.rowsAdd {a : Option Addr} {n cap : Nat} {bs : List Nat} {hs : List Value} {ts : List (List Nat)} (hn : bs.length = n) (L : List Assn) : Ent (brow a n cap bs :: rows hs ts :: L) (rows (hs ++ [.slice a n cap]) (ts ++ [bs]) :: L) := by
  subst hn
  rintro im h ⟨h1, h2, e1, e2, e3, hb, h3, h4, e4, e5, e6, ⟨hl, hr⟩, s⟩
  refine ⟨Hp.emp, h, Hp.emp_le _, Hp.le_refl _, Hp.emp_dis _, ⟨by simp [hl], fun i b hi => ?_⟩, satL_mono (Hp.le_refl _) (Hp.le_trans e5 e2) s⟩
  by_cases hlt : i < ts.length
  · rw [List.getElem?_append_left hlt] at hi
    obtain ⟨a', cap', h5, h6⟩ := hr i b hi
    exact ⟨a', cap', by rw [List.getElem?_append_left (by omega)]; exact h5, h6⟩
  · rw [List.getElem?_append_right (by omega)] at hi
    have h0 : i - ts.length = 0 := by
      rcases Nat.eq_zero_or_pos (i - ts.length) with h | h
      · exact h
      · rw [List.getElem?_eq_none (by simp; omega)] at hi; cases hi
    rw [h0] at hi
    simp only [List.getElem?_cons_zero, Option.some.injEq] at hi
    subst hi
    exact ⟨a, cap, by rw [List.getElem?_append_right (by omega), hl, h0]; rfl, hb⟩
theorem j_rowAt {X : Cx} {e : Env} {L L1 : List Assn} {G : Act → World → Prop} {hs : List Value} {ts : List (List Nat)} {i : Nat} {bs : List Nat} [f : Find (rows hs ts) L L1] (hb : ts[i]? = some bs)
    (h : ∀ a cap, hs[i]? = some (.slice a bs.length cap) → J X e (brow a bs.length cap bs :: L) G) : J X e L G := fun act w m hh => by
  obtain ⟨im, hp, r, h1, h2, a, b, c, ⟨hl, hr⟩, s⟩ := hh.ent f.ent
  obtain ⟨a', cap', h3, h4⟩ := hr i bs hb
  obtain ⟨im2, hp2, r2, s2⟩ := hh
  have hh : Holds X.Φ L w := ⟨im2, hp2, r2, s2⟩
  refine h a' cap' h3 act w m ?_
  have : Holds X.Φ (rows hs ts :: L1) w := ⟨im, hp, r, h1, h2, a, b, c, ⟨hl, hr⟩, s⟩
  -- the fact is of what never changes: read it off again, beside all of L
  exact hh.ent (fun im' hp' sl => by
    obtain ⟨g1, g2, ga, gb, gc, ⟨gl, gr⟩, gs⟩ := f.ent im' hp' sl
    obtain ⟨a'', cap'', h5, h6⟩ := gr i bs hb
    rw [h3] at h5
    cases h5
    exact ⟨Hp.emp, hp', Hp.emp_le _, Hp.le_refl _, Hp.emp_dis _, h6, sl⟩)
theorem j_rowsLen {X : Cx} {e : Env} {L : List Assn} {G : Act → World → Prop} {hs : List Value} {ts : List (List Nat)} (h : hs.length = ts.length → J X e (rows hs ts :: L) G) : J X e (rows hs ts :: L) G := fun act w m hh => by
  have hh' := hh
  obtain ⟨im, hp, r, h1, h2, a, b, c, ⟨hl, hr⟩, s⟩ := hh
  exact h hl act w m hh'
end Go.Proofs.YtcnpkmdooekmgaaGreatDoor
namespace Go.Proofs.YtcnpkmdooekmgaaGreatDoor
open Go Sl
attribute [local irreducible] cw sw J Exit.then Exit.inBlock Exit.noGoto bodyPost swG swL permL
/-- texts of one sum. -/
structure HE where
  a : Option Addr
  cap : Nat
  hs : List Value
  ts : List (List Nat)
abbrev kS (k : List Nat) : Value := .agg (k.map u8).toArray
abbrev vS (x : HE) : Value := .slice x.a x.hs.length x.cap
abbrev hin (x : List Nat × HE) : Assn := all [vec x.2.a x.2.hs.length x.2.cap T.sl_uint8 1 x.2.hs, rows x.2.hs x.2.ts]
structure LQ (N : Nat) (l : List (List Nat × HE)) : Prop where
  nd : (l.map Prod.fst).Nodup
  sz : (l.map fun p => p.2.hs.length).sum ≤ N
  ok : ∀ p ∈ l, ∀ t ∈ p.2.ts, ∀ x ∈ t, x < 256
structure LR where
  (m : Nat) (cnt : Int) (one two : Value) (clash : Bool)
  l : List (List Nat × HE)
abbrev lcells (x : LR) : List Value := [.map (some x.m), .int .i64 x.cnt, x.one, x.two, .bool x.clash]
abbrev hlogB (p : Nat) (x : LR) : List Assn := [pt p (.cells (lcells x).toArray T.hashlog_Log (0, 0)), mp (isInts .u8 32) x.m (em kS vS x.l), each x.l hin]
/-- a log of at most N texts. -/
def hlog (p N : Nat) : Assn := box (fun x : LR => LQ N x.l ∧ x.one.oneCell' = true ∧ x.two.oneCell' = true) (hlogB p)
theorem j_hlog {X : Cx} {e : Env} {L : List Assn} {G : Act → World → Prop} {p N : Nat} (h : ∀ x : LR, LQ N x.l → x.one.oneCell' = true → x.two.oneCell' = true → J X e (hlogB p x ++ L) G) : J X e (hlog p N :: L) G := j_open fun x hx => h x hx.1 hx.2.1 hx.2.2
theorem Ent.hlog {L : List Assn} {p N : Nat} (x : LR) (h1 : LQ N x.l) (h2 : x.one.oneCell' = true) (h3 : x.two.oneCell' = true) : Ent (hlogB p x ++ L) (Go.Proofs.YtcnpkmdooekmgaaGreatDoor.hlog p N :: L) := Ent.shut (Q := fun x : LR => LQ N x.l ∧ x.one.oneCell' = true ∧ x.two.oneCell' = true) (B := hlogB p) x ⟨h1, h2, h3⟩
theorem hlognew_c (Φ : Base) : Sl.Fn Tryz.prog Φ F.hashlog_New [] [] (fun _ : Nat => True) (fun p => ptr p) (fun p => [hlog p 0]) := by
  refine fo fun F => ?_
  repeat refine s1 ?_
  refine r_makeMap (isInts .u8 32) rfl rfl (fun m => ?_)
  refine r_build (cells := lcells ⟨m, 0, .slice none 0 0, .slice none 0 0, false, []⟩) rfl rfl rfl ?_
  refine r_box (cs := lcells ⟨m, 0, .slice none 0 0, .slice none 0 0, false, []⟩) rfl rfl rfl rfl (fun p => ?_)
  repeat refine s1 ?_
  refine jh [pt p (.cells (lcells ⟨m, 0, .slice none 0 0, .slice none 0 0, false, []⟩).toArray T.hashlog_Log (0, 0)), mp (isInts .u8 32) m []] ?_
  refine j_ent (Ent.app [_, _] (Ent.eachNil hin _)) ?_
  refine j_ent (Ent.hlog (N := 0) ⟨m, 0, .slice none 0 0, .slice none 0 0, false, []⟩ ⟨by simp, by simp, by simp⟩ rfl rfl) ?_
  exact f1 p
abbrev amongF : Nat := F.hashlog_among_c1
theorem amongF_c (bx : Nat) (sa2 : Option Addr) (n2 cap2 : Nat) (y : List Nat) (sa : Option Addr) (n cap : Nat) (bs : List Nat) (U : TypeId) (fr : Nat × Nat) (hy : ∀ x ∈ y, x < 256) (hb : ∀ x ∈ bs, x < 256) (Φ : Base) :
    Sl.Fn Tryz.prog Φ F.hashlog_among_c1 [.slice sa2 n2 cap2, ptr bx] [brow sa2 n2 cap2 y, pt bx (.cells [.slice sa n cap].toArray U fr), brow sa n cap bs] (fun _ : Unit => True) (fun _ => .bool (decide (y = bs))) (fun _ => [pt bx (.cells [.slice sa n cap].toArray U fr)]) := by
  refine fo fun F => ?_
  repeat refine s1 ?_
  refine cl (equal_c sa2 sa n2 cap2 n cap y bs hy hb Φ) ?_
  repeat refine s1 ?_
  exact f1 ()
theorem among_c (a : Option Addr) (c : Nat) (hs : List Value) (ts : List (List Nat)) (sa : Option Addr) (n cap : Nat) (bs : List Nat) (hts : ∀ t ∈ ts, ∀ x ∈ t, x < 256) (hb : ∀ x ∈ bs, x < 256) (hn : hs.length ≤ 1000000000) (Φ : Base) :
    Sl.Fn Tryz.prog Φ F.hashlog_among [.slice a hs.length c, .slice sa n cap] [vec a hs.length c T.sl_uint8 1 hs, rows hs ts, brow sa n cap bs] (fun _ : Bool => True) (fun r => .bool r) (fun _ => [vec a hs.length c T.sl_uint8 1 hs]) := by
  have idx : ∀ bx U fr, Sl.Fn Tryz.prog Φ F.slices_IndexFunc_byte_byte [.slice a hs.length c, .func (.func amongF) #[] #[ptr bx]] [vec a hs.length c T.sl_uint8 1 hs, rows hs ts, brow sa n cap bs, pt bx (.cells [.slice sa n cap].toArray U fr)]
      (fun _ : Int => True) (fun r => .int .i64 r) (fun _ => [vec a hs.length c T.sl_uint8 1 hs]) := by
    intro bx U fr
    refine fo fun F => ?_
    repeat refine s1 ?_
    refine t_loop (σ := Nat) (fun i => [(8, i64 i), (7, i64 hs.length), (0, .slice a hs.length c), (1, .func (.func amongF) #[] #[ptr bx])]) (fun _ => [vec a hs.length c T.sl_uint8 1 hs, rows hs ts, brow sa n cap bs, pt bx (.cells [.slice sa n cap].toArray U fr)] ++ F) (fun i => i ≤ hs.length) (fun i => hs.length - i)
      0 (by omega) ⟨rfl, rfl, rfl, rfl, trivial⟩ (Ent.refl _) ?_
    intro i hi
    dsimp only [List.cons_append, List.nil_append]
    repeat refine s1 ?_
    refine r_icmp rfl rfl rfl rfl ?_
    repeat refine s1 ?_
    refine t_condS rfl (fun hlt => ?_) (fun hlt => ?_)
    · refine j_at a hs.length c T.sl_uint8 1 hs (.inl (by omega)) fun b off ha _ _ => ?_
      subst ha
      refine j_head (rows hs ts) ?_
      refine j_rowsLen (fun hlen => ?_)
      have hti : ts[i]? = some ts[i] := List.getElem?_eq_getElem (by omega)
      refine j_rowAt (hs := hs) hti (fun a3 c3 hv => ?_)
      repeat refine s1 ?_
      refine ix rfl rfl (by omega) ?_
      refine r_loadV (off := off) (n := hs.length) (cap := c) (E := T.sl_uint8) (s := 1) (xs := hs) rfl (j := i) (v := .slice a3 ts[i].length c3) (by omega) hv rfl rfl ?_
      refine r_callv (cap := [ptr bx]) rfl (blt_any rfl) rfl rfl (amongF_c bx a3 ts[i].length c3 ts[i] sa n cap bs U fr (hts _ (List.getElem_mem _)) hb Φ) ?_
      intro _ _
      dsimp only [bnd, List.cons_append, List.nil_append]
      repeat refine s1 ?_
      refine t_condS rfl (fun hq => ?_) (fun hq => ?_)
      · repeat refine s1 ?_
        exact f1 (i : Int)
      · repeat refine s1 ?_
        exact j_again (i + 1) (by omega) (by omega) ⟨rfl, rfl, rfl, rfl, trivial⟩ Le.ent
    · repeat refine s1 ?_
      exact f1 (-1 : Int)
  have cont : ∀ bx U fr, Sl.Fn Tryz.prog Φ F.slices_ContainsFunc_byte_byte [.slice a hs.length c, .func (.func amongF) #[] #[ptr bx]] [vec a hs.length c T.sl_uint8 1 hs, rows hs ts, brow sa n cap bs, pt bx (.cells [.slice sa n cap].toArray U fr)]
      (fun _ : Bool => True) (fun r => .bool r) (fun _ => [vec a hs.length c T.sl_uint8 1 hs]) := by
    intro bx U fr
    refine fo fun F => ?_
    repeat refine s1 ?_
    refine cx (idx bx U fr) fun r _ => ?_
    refine r_icmp rfl rfl rfl rfl ?_
    repeat refine s1 ?_
    exact f1 (decide (0 ≤ r))
  refine fo fun F => ?_
  repeat refine s1 ?_
  refine r_box (cs := [.slice sa n cap]) rfl rfl rfl rfl (fun bx => ?_)
  repeat refine s1 ?_
  refine mkf (vs := [ptr bx]) rfl ?_
  refine cx (cont bx T.sl_uint8 (0, 0)) fun r _ => ?_
  repeat refine s1 ?_
  exact f1 r
theorem kS_inj : ∀ a b : List Nat, kS a = kS b → a = b := fun a b h => by
  have h1 : a.map u8 = b.map u8 := by simpa [kS] using h
  exact u8_inj a b h1
theorem kS_ok {k : List Nat} (h : k.length = 32) : isInts .u8 32 (kS k) := ⟨List.map (fun x : Nat => (x : Int)) k, by simpa using h, by simp [kS, List.map_map, Function.comp_def]⟩
theorem hmade_c (p : Nat) (x : LR) (Φ : Base) : Sl.Fn Tryz.prog Φ F.hashlog_Log_made [ptr p] [pt p (.cells (lcells x).toArray T.hashlog_Log (0, 0))] (fun _ : Unit => True) (fun _ => .bool true) (fun _ => [pt p (.cells (lcells x).toArray T.hashlog_Log (0, 0))]) := by
  refine fo fun F => ?_
  repeat refine s1 ?_
  exact f1 ()
theorem LQ.up {N N' : Nat} {l : List (List Nat × HE)} (h : LQ N l) (hn : N ≤ N') : LQ N' l := ⟨h.nd, Nat.le_trans h.sz hn, h.ok⟩
theorem hl_split {N : Nat} {l : List (List Nat × HE)} (hq : LQ N l) (m : List Nat) : ∃ (x : HE) (rest : List (List Nat × HE)), ((alook l m).map vS).getD (.slice none 0 0) = vS x ∧ x.hs.length ≤ N ∧ (∀ t ∈ x.ts, ∀ y ∈ t, y < 256) ∧
    (∀ L, Ent (each l hin :: L) (hin (m, x) :: each rest hin :: L)) ∧ (∀ L, Ent (hin (m, x) :: each rest hin :: L) (each l hin :: L)) ∧
    ∀ y : HE, y.hs.length ≤ x.hs.length + 1 → (∀ t ∈ y.ts, ∀ z ∈ t, z < 256) → ∃ l2, mset (em kS vS l) (kS m) (vS y) = em kS vS l2 ∧ LQ (N + 1) l2 ∧ ∀ L, Ent (hin (m, y) :: each rest hin :: L) (each l2 hin :: L) := by
  rcases hk : alook l m with _ | x
  · refine ⟨⟨none, 0, [], []⟩, l, rfl, by simp, by simp, fun L => ?_, fun L => Ent.drop _ _, fun y h1 h2 => ⟨l ++ [(m, y)], ?_, ⟨?_, ?_, ?_⟩, fun L => ?_⟩⟩
    · exact ((Ent.vecNil (E := T.sl_uint8) (s := 1) _).trans (Ent.cons _ (Ent.rowsNil _))).trans (Ent.unall [_, _] _)
    · rw [mset_em kS_inj, aset_new hk]
    · have hn : m ∉ l.map Prod.fst := fun h => by
        obtain ⟨p, hp, rfl⟩ := List.mem_map.1 h
        rw [mem_alook hq.nd (v := p.2) hp] at hk; cases hk
      rw [List.map_append]
      exact List.nodup_append.2 ⟨hq.nd, by simp, fun a ha b hb e => by simp at hb; subst hb; exact hn (e ▸ ha)⟩
    · have := hq.sz; simp at h1 ⊢; omega
    · intro p hp
      rcases List.mem_append.1 hp with hp | hp
      · exact hq.ok p hp
      · simp at hp; subst hp; exact h2
    · have := Ent.eachUnmid l (m, y) [] hin L
      rwa [List.append_nil] at this
  · obtain ⟨l1, l2, rfl, h1⟩ := alook_split hq.nd hk
    have hsz := hq.sz
    refine ⟨x, l1 ++ l2, rfl, ?_, fun t ht => hq.ok (m, x) (by simp) t ht, fun L => Ent.eachMid l1 (m, x) l2 hin L, fun L => Ent.eachUnmid l1 (m, x) l2 hin L, fun y h3 h4 => ⟨l1 ++ (m, y) :: l2, ?_, ⟨?_, ?_, ?_⟩, fun L => Ent.eachUnmid l1 (m, y) l2 hin L⟩⟩
    · simp at hsz ⊢; omega
    · rw [mset_em kS_inj, aset_old h1]
    · have := hq.nd; simpa using this
    · simp at hsz ⊢; omega
    · intro p hp
      rcases List.mem_append.1 hp with hp | hp
      · exact hq.ok p (by simp [hp])
      · rcases List.mem_cons.1 hp with rfl | hp
        · exact h4
        · exact hq.ok p (by simp [hp])
theorem hlog_c (p N : Nat) (hN : N ≤ 1000000000) (sa : Option Addr) (n cap : Nat) (bs : List Nat) (hl : bs.length = n) (hb : ∀ x ∈ bs, x < 256) (hn : n ≤ 1000000) (Φ : Base) :
    Sl.Fn Tryz.prog Φ F.hashlog_Log_Sum [ptr p, .slice sa n cap] [hlog p N, brow sa n cap bs] (fun _ : Unit => True) (fun _ => .agg ((shaM bs).map u8).toArray) (fun _ => [hlog p (N + 1)]) := by
  refine fo fun F => j_hlog fun x hq h1 h2 => ?_
  dsimp only [List.cons_append, List.nil_append]
  have hsl := (sha_bytes bs hb).1
  repeat refine s1 ?_
  refine r_alloc (cs := (List.replicate 32 0).map u8) rfl rfl rfl (fun t4 => ?_)
  repeat refine s1 ?_
  refine cl (sha_c sa n cap bs hl hb hn Φ) ?_
  generalize shaM bs = m at *
  refine r_alloc (cs := (List.replicate 32 0).map u8) rfl rfl rfl (fun t5 => ?_)
  refine r_storeW rfl rfl (by simpa using hsl) (by simp) (by simp [Value.oneCell']) rfl ?_
  repeat refine s1 ?_
  refine cl (hmade_c p x Φ) ?_
  repeat refine s1 ?_
  refine r_loadW (vs := m.map u8) rfl (by simpa using hsl) rfl rfl ?_
  refine r_lookup1 rfl rfl (kS_ok hsl) rfl rfl ?_
  rw [mget_em kS_inj]
  obtain ⟨⟨va, vc, vh, vt⟩, rest, e1, e2, e3, e4, e5, e6⟩ := hl_split hq m
  rw [e1, show vS ⟨va, vc, vh, vt⟩ = .slice va vh.length vc from rfl]
  refine j_head (each x.l hin) (j_ent (e4 _) ?_)
  refine j_all ?_
  dsimp only [List.cons_append, List.nil_append] at *
  have e2 : vh.length ≤ N := e2
  repeat refine s1 ?_
  refine cx (among_c va vc vh vt sa n cap bs e3 hb (by omega) Φ) fun r _ => ?_
  repeat refine s1 ?_
  refine t_condSB rfl (fun hr => ?_) (fun hr => ?_)
  · repeat refine s1 ?_
    refine r_loadW (vs := m.map u8) rfl (by simpa using hsl) rfl rfl ?_
    refine r_storeW rfl rfl (by simpa using hsl) (by simp) (by simp [Value.oneCell']) rfl ?_
    repeat refine s1 ?_
    refine js [vec va vh.length vc T.sl_uint8 1 vh, rows vh vt] (fun _ => Ent.unall _ _) ?_
    refine js [hin (m, ⟨va, vc, vh, vt⟩), each rest hin] (fun L => e5 L) ?_
    refine js (hlogB p x) (fun L => Ent.hlog (N := N + 1) x (hq.up (by omega)) h1 h2) ?_
    exact j_fin rfl (.cons (rv_agg rfl (by simpa using hsl)) .nil) () rfl trivial
  · repeat refine s1 ?_
    refine cx (clone_c sa n cap (bs.map u8) (by simp [Value.oneCell']) (by omega) Φ) fun q _ => ?_
    refine fz ?_
    repeat refine s1 ?_
    refine t_draw [pt p (.cells (lcells x).toArray T.hashlog_Log (0, 0)), pt t5 (.cells (m.map u8).toArray T.api_Sum (0, 0))] [3, 4] mixed (by kernel_rfl) ?_
    repeat refine s1 ?_
    refine s_loadW (vs := m.map u8) rfl (by simpa using hsl) rfl rfl ?_
    repeat refine s1 ?_
    refine r_build1s [.tmp 32] [.slice q.1 n q.2] rfl rfl (by simp [Value.oneCell']) (by simp) rfl rfl rfl (fun b2 => ?_)
    have key : ∀ (ta : Option Addr) (tc : Nat), ∃ l2, mset (em kS vS x.l) (kS m) (.slice ta (vh.length + 1) tc) = em kS vS l2 ∧ LQ (N + 1) l2 ∧
        ∀ L, Ent (vec ta (vh.length + 1) tc T.sl_uint8 1 (vh ++ [.slice q.1 n q.2]) :: rows (vh ++ [.slice q.1 n q.2]) (vt ++ [bs]) :: each rest hin :: L) (each l2 hin :: L) := fun ta tc => by
      obtain ⟨l2, g1, g2, g3⟩ := e6 ⟨ta, tc, vh ++ [.slice q.1 n q.2], vt ++ [bs]⟩ (by simp) (fun t ht z hz => by
        rcases List.mem_append.1 ht with ht | ht
        · exact e3 t ht z hz
        · simp at ht; subst ht; exact hb z hz)
      have hl1 : (vh ++ [Value.slice q.1 n q.2]).length = vh.length + 1 := by simp
      refine ⟨l2, by rw [← g1, vS, hl1], g2, fun L => ?_⟩
      have := (Ent.unall [vec ta (vh ++ [Value.slice q.1 n q.2]).length tc T.sl_uint8 1 (vh ++ [.slice q.1 n q.2]), rows (vh ++ [.slice q.1 n q.2]) (vt ++ [bs])] (each rest hin :: L)).trans (g3 L)
      rwa [hl1] at this
    clear e6
    refine r_appendK (n := vh.length) (m := 1) (s := 1) (xs := vh) (ys := [.slice q.1 n q.2]) rfl rfl (by decide) (by rfl) (by simp [Value.oneCell']) (by omega) (by omega) rfl rfl ?_ (fun ta tc _ => ?_)
    rotate_left
    obtain ⟨l2, g1, g2, g3⟩ := key ta tc
    rotate_right
    obtain ⟨l2, g1, g2, g3⟩ := key va vc
    all_goals
      refine js [brow q.1 n q.2 bs, rows vh vt] (fun L => Ent.rowsAdd hl L) ?_
      refine r_mapUpd rfl rfl rfl (kS_ok hsl) rfl ?_
      rw [g1]
      repeat refine s1 ?_
      refine r_iop rfl rfl rfl rfl ?_
      repeat refine s1 ?_
      refine so rfl rfl ?_
      repeat' (first | refine s2 ?_ | (refine k_bin ?_; refine r_icmp rfl rfl rfl rfl ?_) | (refine g_mark ?_; first | refine gg_splitD rfl rfl (fun _ => ?_) (fun _ => ?_) | refine gg_splitN rfl rfl (fun _ => ?_) (fun _ => ?_) | refine gg_split rfl rfl (fun _ => ?_) (fun _ => ?_)) | (refine k_cond ?_; first | refine t_condS rfl (fun _ => ?_) (fun _ => ?_) | refine t_condSN rfl (fun _ => ?_) (fun _ => ?_) | refine t_condSB rfl (fun _ => ?_) (fun _ => ?_)))
      · rename_i h0 _
        refine j_head (rows vh vt) (j_rowsLen fun hlen => ?_)
        have hti : vt[0]? = some vt[0] := List.getElem?_eq_getElem (by omega)
        refine j_rowAt (hs := vh) hti (fun a3 c3 hv => ?_)
        first
          | (refine j_at va (vh.length + 1) vc T.sl_uint8 1 (vh ++ [.slice q.1 n q.2]) (.inl (by omega)) fun b off ha _ _ => ?_
             subst ha
             refine r_idx rfl rfl (by omega) (by omega) rfl ?_
             refine r_loadV (off := off) (n := vh.length + 1) (cap := vc) (E := T.sl_uint8) (s := 1) (xs := vh ++ [.slice q.1 n q.2]) rfl (j := 0) (v := .slice a3 vt[0].length c3) (by simp) (by rw [List.getElem?_append_left (by omega)]; exact hv) rfl rfl ?_)
          | (refine j_at va vh.length vc T.sl_uint8 1 vh (.inl (by omega)) fun b off ha _ _ => ?_
             subst ha
             refine r_idx rfl rfl (by omega) (by omega) rfl ?_
             refine r_loadV (off := off) (n := vh.length) (cap := vc) (E := T.sl_uint8) (s := 1) (xs := vh) rfl (j := 0) (v := .slice a3 vt[0].length c3) (by simp) hv rfl rfl ?_)
        repeat refine s1 ?_
        refine so rfl rfl ?_
        repeat refine s1 ?_
        refine so rfl rfl ?_
        repeat refine s1 ?_
        refine so rfl rfl ?_
        repeat refine s1 ?_
        refine r_loadW (vs := m.map u8) rfl (by simpa using hsl) rfl rfl ?_
        refine r_storeW rfl rfl (by simpa using hsl) (by simp) (by simp [Value.oneCell']) rfl ?_
        repeat refine s1 ?_
        first
          | refine js [vec (some ⟨b, off, none⟩) (vh.length + 1) vc T.sl_uint8 1 (vh ++ [Value.slice q.1 n q.2]), rows (vh ++ [Value.slice q.1 n q.2]) (vt ++ [bs]), each rest hin] (fun L => g3 L) ?_
          | refine js [vec va (vh.length + 1) vc T.sl_uint8 1 (vh ++ [Value.slice q.1 n q.2]), rows (vh ++ [Value.slice q.1 n q.2]) (vt ++ [bs]), each rest hin] (fun L => g3 L) ?_
          | refine js [vec ta (vh.length + 1) tc T.sl_uint8 1 (vh ++ [Value.slice q.1 n q.2]), rows (vh ++ [Value.slice q.1 n q.2]) (vt ++ [bs]), each rest hin] (fun L => g3 L) ?_
        refine js (hlogB p ⟨x.m, IntKind.i64.wrap (x.cnt + 1), .slice a3 vt[0].length c3, .slice q.1 n q.2, true, l2⟩) (fun L => Ent.hlog _ g2 rfl rfl) ?_
        exact j_fin rfl (.cons (rv_agg rfl (by simpa using hsl)) .nil) () rfl trivial
      all_goals
        refine r_loadW (vs := m.map u8) rfl (by simpa using hsl) rfl rfl ?_
        refine r_storeW rfl rfl (by simpa using hsl) (by simp) (by simp [Value.oneCell']) rfl ?_
        repeat refine s1 ?_
        first
          | refine js [vec va (vh.length + 1) vc T.sl_uint8 1 (vh ++ [Value.slice q.1 n q.2]), rows (vh ++ [Value.slice q.1 n q.2]) (vt ++ [bs]), each rest hin] (fun L => g3 L) ?_
          | refine js [vec ta (vh.length + 1) tc T.sl_uint8 1 (vh ++ [Value.slice q.1 n q.2]), rows (vh ++ [Value.slice q.1 n q.2]) (vt ++ [bs]), each rest hin] (fun L => g3 L) ?_
        refine js (hlogB p ⟨x.m, IntKind.i64.wrap (x.cnt + 1), x.one, x.two, x.clash, l2⟩) (fun L => Ent.hlog _ g2 h1 h2) ?_
        exact j_fin rfl (.cons (rv_agg rfl (by simpa using hsl)) .nil) () rfl trivial
end Go.Proofs.YtcnpkmdooekmgaaGreatDoor
namespace Go.Proofs.YtcnpkmdooekmgaaGreatDoor.Sl
open Go Go.Proofs.YtcnpkmdooekmgaaGreatDoor.Sl
theorem fill_two : ∀ (vs : List (Value × Value)) (place : Nat → Option (Nat × Nat)) (k : Nat) (cells : Array Value), (∀ i, place i = some (i * 2, 2)) → cells.size = 2 * k + 2 * vs.length →
    ∃ cs, Instr.fill place cells ((vs.zipIdx k).map fun p => (p.2, Value.agg #[p.1.1, p.1.2])) = some cs ∧ cs.size = cells.size ∧ (∀ j, j < 2 * k → cs[j]? = cells[j]?) ∧ ∀ j, j < 2 * vs.length → cs[2 * k + j]? = (vs.flatMap fun v => [v.1, v.2])[j]?
  | [], _, _, cells, _, _ => ⟨cells, rfl, rfl, fun _ _ => rfl, fun j hj => absurd hj (Nat.not_lt_zero j)⟩
  | v :: vs, place, k, cells, hp, hs => by
    have hc : (Value.agg #[v.1, v.2]).cells = #[v.1, v.2] := rfl
    simp only [List.length_cons] at hs
    obtain ⟨cs, e, es, el, ev⟩ := fill_two vs place (k + 1) ((cells.setIfInBounds (2 * k) v.1).setIfInBounds (2 * k + 1) v.2) hp (by simp; omega)
    refine ⟨cs, ?_, by simpa using es, fun j hj => ?_, fun j hj => ?_⟩
    · simp only [List.zipIdx_cons, List.map_cons, Instr.fill, hp, hc]
      rw [if_neg (by simp; omega)]
      have : (#[v.1, v.2].zipIdx.foldl (fun cs (x : Value × Nat) => cs.setIfInBounds (k * 2 + x.2) x.1) cells) = (cells.setIfInBounds (2 * k) v.1).setIfInBounds (2 * k + 1) v.2 := by
        rw [Nat.mul_comm]; simp
      simpa [this, Nat.mul_comm] using e
    · rw [el j (by omega), Array.getElem?_setIfInBounds_ne (by omega), Array.getElem?_setIfInBounds_ne (by omega)]
    · simp only [List.flatMap_cons]
      match j, hj with
      | 0, _ =>
        have hk : 2 * k < cells.size := by omega
        rw [Nat.add_zero, el (2 * k) (by omega), Array.getElem?_setIfInBounds_ne (by omega)]
        simp [hk]
      | 1, _ =>
        have hk : 2 * k + 1 < cells.size := by omega
        rw [el (2 * k + 1) (by omega)]
        simp [hk]
      | j + 2, hj =>
        have := ev j (by simp only [List.length_cons] at hj; omega)
        rw [show 2 * k + (j + 2) = 2 * (k + 1) + j by omega, this]
        simp
theorem run_buildTwos {P : Program} {t E : TypeId} {by_ : Nat} {z : Value} [tu : TUnd P t (.slice E)] [te : TElem P E 2 by_ z] (vs : List (Value × Value)) (hn : 2 * vs.length ≤ 16777216) (w : World) :
    (Instr.buildSlice t vs.length (vs.zipIdx.map fun p => (p.2, Value.agg #[p.1.1, p.1.2])).toArray).run P w = .ok (.slice (some ⟨w.heap.size, 0, none⟩) vs.length vs.length) { w with heap := w.heap.push (.cells (vs.flatMap fun v => [v.1, v.2]).toArray E) } := by
  obtain ⟨i, hi, hs, hb, hz⟩ := te.ex
  have hfl : (vs.flatMap fun v => [v.1, v.2]).length = 2 * vs.length := by
    clear hn; induction vs with
    | nil => rfl
    | cons v vs ih => simp only [List.flatMap_cons, List.length_append, ih, List.length_cons, List.length_nil]; omega
  have key : ∀ zero : Array Value, Instr.fill (fun i => some (i * 2, 2)) ((Array.range (vs.length * 2)).map (zero[· % zero.size]!)) (vs.zipIdx.map fun p => (p.2, Value.agg #[p.1.1, p.1.2])) = some (vs.flatMap fun v => [v.1, v.2]).toArray := fun zero => by
    obtain ⟨cs, e, es, _, ev⟩ := fill_two vs (fun i => some (i * 2, 2)) 0 ((Array.range (vs.length * 2)).map (zero[· % zero.size]!)) (fun _ => rfl) (by simp; omega)
    rw [e]
    congr 1
    apply Array.ext'
    apply List.ext_getElem?
    intro j
    by_cases hj : j < 2 * vs.length
    · have := ev j hj
      simpa using this
    · have h2 : cs.size = vs.length * 2 := by simpa using es
      rw [List.getElem?_eq_none (by simp; omega), List.getElem?_eq_none (by simp [hfl]; omega)]
  have hsz : ∀ w, (sizeOf E).run P w = .ok 2 w := fun w => by simp [sizeOf, typeInfo, hi, hs, go_sem]
  have hzv : ∀ w, (zeroValue E).run P w = .ok z w := fun w => by simp [zeroValue, typeInfo, hi, hz, go_sem]
  simp only [Instr.buildSlice, Sem.run_bind, tu.run, Result.andThen_ok, hsz]
  rw [if_neg (by omega)]
  by_cases h0 : vs.length * 2 = 0
  · simp only [h0, if_true, Sem.run_bind, Sem.run_pure, Result.andThen_ok]
    have := key #[]
    rw [h0] at this
    simp only [Sem.run_pure, Sem.run_bind, this]
    rfl
  · simp only [h0, if_false, Sem.run_bind, Sem.run_pure, Result.andThen_ok, hzv, key]
    rfl
section
variable {X : Cx} {e : Env} {L L1 F : List Assn} {A : List Assn} {S : List Nat} {ops : Array Oper} {k : Nat} {l : List Oper} {R : Act → World → Prop} {G : Act → World → Prop}
variable {d : Nat} {T : TypeId} {pos : String} {af : Array Edge}
theorem r_build2s {t E : TypeId} {len : Nat} {parts : Array (Nat × Operand)} {by_ : Nat} {z : Value} [tu : TUnd X.P t (.slice E)] [te : TElem X.P E 2 by_ z] (os : List Operand) (vs : List (Value × Value)) (hp : parts = (os.zipIdx.map fun p => (p.2, p.1)).toArray) (hvs : evL e os = some (vs.map fun v => .agg #[v.1, v.2]))
    (hn : 2 * vs.length ≤ 16777216) (hlen : vs.length = len) (hs : S.contains k = false) (hd : Nat.blt d X.n = true) [st : ∀ b, Stay A (pt b (.cells (vs.flatMap fun v => [v.1, v.2]).toArray E (0, 0)) :: L)]
    (h : ∀ b, J X ((d, .slice (some ⟨b, 0, none⟩) len len) :: e) (vec (some ⟨b, 0, none⟩) len len E 2 (vs.flatMap fun v => [v.1, v.2]) :: L) (sw X.P (Holds X.Φ A) S ops R (k + 1) l)) :
    J X e L (sw X.P (Holds X.Φ A) S ops R k (⟨some d, .buildSlice t len parts, T, pos, af, none⟩ :: l)) :=
  r_buildS (cells := vs.flatMap fun v => [v.1, v.2]) (s := 2) hs hd (by
    subst hlen; clear hvs h hn st; induction vs with
    | nil => rfl
    | cons v vs ih => simp only [List.flatMap_cons, List.length_append, ih, List.length_cons, List.length_nil]; omega) (fun a w m => by
    have e1 : (parts.map fun (i, x) => (i, a.eval x)) = (vs.zipIdx.map fun p => (p.2, Value.agg #[p.1.1, p.1.2])).toArray := by
      have h2 := m.evL hvs
      have h3 : (os.map a.eval).zipIdx = (vs.map fun v => Value.agg #[v.1, v.2]).zipIdx := by rw [h2]
      rw [List.zipIdx_map, List.zipIdx_map] at h3
      have h4 := congrArg (List.map fun p : Value × Nat => (p.2, p.1)) h3
      rw [List.map_map, List.map_map] at h4
      rw [hp]
      simp only [List.map_toArray, List.map_map]
      congr 1
    rw [e1, ← hlen]
    exact run_buildTwos vs hn w) h
end
end Go.Proofs.YtcnpkmdooekmgaaGreatDoor.Sl
namespace Go.Proofs.YtcnpkmdooekmgaaGreatDoor
open Go Sl
/-- bytes that nobody turns, and where they stand. -/
structure BS where
  a : Option Addr
  cap : Nat
  b : List Nat
abbrev vB (x : BS) : Value := .slice x.a x.b.length x.cap
abbrev kU (k : Nat) : Value := .int .u32 (k : Int)
theorem kU_inj : ∀ a b : Nat, kU a = kU b → a = b := fun a b h => by simp [kU] at h; omega
/-- all of some rows are rows of a sector's bytes that nobody turns. -/
def brows (l : List BS) : Assn := im' (fun im => ∀ x ∈ l, x.b.length = 512 ∧ (∀ y ∈ x.b, y < 256) ∧ (brow x.a x.b.length x.cap x.b).sat im Hp.emp) (fun hm h x hx => ⟨(h x hx).1, (h x hx).2.1, (brow x.a x.b.length x.cap x.b).mono hm (h x hx).2.2⟩)
instance (l : List BS) : Pers (brows l) := ⟨fun _ _ h => h⟩
theorem Ent.browsNil (L : List Assn) : Ent L (brows [] :: L) := fun _ h s => ⟨Hp.emp, h, Hp.emp_le _, Hp.le_refl _, Hp.emp_dis _, (fun x hx => by cases hx), s⟩
theorem Ent.browsAdd {l : List BS} {x : BS} (h1 : x.b.length = 512) (h2 : ∀ y ∈ x.b, y < 256) {l' : List BS} (hl : ∀ y ∈ l', y = x ∨ y ∈ l) (L : List Assn) : Ent (brow x.a x.b.length x.cap x.b :: brows l :: L) (brows l' :: L) := by
  rintro im h ⟨a1, a2, e1, e2, e3, hb, h3, h4, e4, e5, e6, hr, s⟩
  refine ⟨Hp.emp, h, Hp.emp_le _, Hp.le_refl _, Hp.emp_dis _, fun y hy => ?_, satL_mono (Hp.le_refl _) (Hp.le_trans e5 e2) s⟩
  rcases hl y hy with rfl | hy
  · exact ⟨h1, h2, hb⟩
  · exact hr y hy
theorem j_browAt {X : Cx} {e : Env} {L : List Assn} {G : Act → World → Prop} {l : List BS} {x : BS} (hx : x ∈ l) (h : x.b.length = 512 → (∀ y ∈ x.b, y < 256) → J X e (brow x.a x.b.length x.cap x.b :: brows l :: L) G) : J X e (brows l :: L) G := fun act w m hh => by
  have hh' := hh
  obtain ⟨im, hp, r, h1, h2, a, b, c, hr, s⟩ := hh
  have h3 := hr x hx
  refine h h3.1 h3.2.1 act w m (hh'.ent ?_)
  rintro im' hp' ⟨k1, k2, ka, kb, kc, kr, ks⟩
  exact ⟨Hp.emp, hp', Hp.emp_le _, Hp.le_refl _, Hp.emp_dis _, (kr x hx).2.2, k1, k2, ka, kb, kc, kr, ks⟩
/-- sectors' bytes, by numbers. -/
abbrev emB (l : List (Nat × BS)) : List (Value × Value) := em kU vB l
structure MQ (f : Nat → Option (List Nat)) (l : List (Nat × BS)) : Prop where
  nd : (l.map Prod.fst).Nodup
  eq : ∀ k, (alook l k).map BS.b = f k
theorem MQ.set {f : Nat → Option (List Nat)} {l : List (Nat × BS)} (h : MQ f l) (k : Nat) (x : BS) : MQ (upd f k (some x.b)) (aset l k x) := by
  have h1 := (Rep.set (l := l) (f := alook l) ⟨h.nd, fun _ => rfl⟩ k x)
  refine ⟨h1.nd, fun j => ?_⟩
  rw [h1.eq]
  simp only [upd]
  split
  · rfl
  · exact h.eq j
theorem aset_sub {l : List (Nat × BS)} {k : Nat} {x : BS} : ∀ y ∈ (aset l k x).map Prod.snd, y = x ∨ y ∈ l.map Prod.snd := by
  induction l with
  | nil => intro y hy; simp [aset] at hy; exact .inl hy
  | cons p l ih =>
    intro y hy
    unfold aset at hy
    split at hy
    · simp only [List.map_cons, List.mem_cons] at hy ⊢
      rcases hy with rfl | hy
      · exact .inl rfl
      · exact .inr (.inr hy)
    · simp only [List.map_cons, List.mem_cons] at hy ⊢
      rcases hy with rfl | hy
      · exact .inr (.inl rfl)
      · exact (ih y hy).imp id .inr
structure Dk where
  size : Nat
  sure : Nat → Option (List Nat)
  shown : Nat → Option (List Nat)
  waits : List (Nat × List Nat)
  reg : BV 64
  calls : Int
  plan : Bool
  left : Nat
  down : Bool
structure DR where
  (ns nv : Nat) (wa : Option Addr) (wc : Nat)
  (ls lv : List (Nat × BS))
  lw : List (Nat × BS)
structure DQ (D : Dk) (x : DR) : Prop where
  s : MQ D.sure x.ls
  v : MQ D.shown x.lv
  w : D.waits = x.lw.map fun p => (p.1, p.2.b)
  sz : 1 ≤ D.size ∧ D.size ≤ 65536
abbrev dcells (D : Dk) (x : DR) : List Value := i64 D.size :: .map (some x.ns) :: .map (some x.nv) :: .slice x.wa x.lw.length x.wc :: (D.reg.1.map u8 ++ [.int .i64 D.calls, .bool D.plan, i64 D.left, .bool D.down])
abbrev wcells (l : List (Nat × BS)) : List Value := l.flatMap fun p => [kU p.1, vB p.2]
abbrev diskB (p : Nat) (D : Dk) (x : DR) : List Assn := [pt p (.cells (dcells D x).toArray T.disk_Disk (0, 0)), mp (isInt .u32) x.ns (emB x.ls), mp (isInt .u32) x.nv (emB x.lv), vec x.wa x.lw.length x.wc T.disk_write 2 (wcells x.lw), brows (x.ls.map Prod.snd ++ x.lv.map Prod.snd ++ x.lw.map Prod.snd)]
/-- a disk. -/
def disk (p : Nat) (D : Dk) : Assn := box (DQ D) (diskB p D)
theorem j_disk {X : Cx} {e : Env} {L : List Assn} {G : Act → World → Prop} {p : Nat} {D : Dk} (h : ∀ x : DR, DQ D x → J X e (diskB p D x ++ L) G) : J X e (disk p D :: L) G := j_open h
theorem Ent.disk {L : List Assn} {p : Nat} {D : Dk} (x : DR) (h : DQ D x) : Ent (diskB p D x ++ L) (Go.Proofs.YtcnpkmdooekmgaaGreatDoor.disk p D :: L) := Ent.shut (Q := DQ D) (B := diskB p D) x h
attribute [local irreducible] cw sw J Exit.then Exit.inBlock Exit.noGoto bodyPost swG swL permL
theorem dsize_c (p : Nat) (D : Dk) (Φ : Base) : Sl.Fn Tryz.prog Φ F.disk_Disk_Size [ptr p] [disk p D] (fun _ : Unit => True) (fun _ => i64 D.size) (fun _ => [disk p D]) := by
  refine fo fun F => j_disk fun x hx => ?_
  dsimp only [List.cons_append, List.nil_append]
  repeat refine s1 ?_
  refine js (diskB p D x) (fun L => Ent.disk x hx) ?_
  exact f1 ()
theorem dask_c (p : Nat) (D : Dk) (Φ : Base) : Sl.Fn Tryz.prog Φ F.disk_Disk_ask [ptr p] [disk p D] (fun _ : Unit => True) (fun _ => i64 (if D.down then 30 else 0)) (fun _ => [disk p D]) := by
  refine fo fun F => ?_
  repeat refine s1 ?_
  refine cl (dsize_c p D Φ) (j_disk fun x hx => ?_)
  dsimp only [List.cons_append, List.nil_append]
  have := hx.sz
  repeat' (first | refine s2 ?_ | (refine k_bin ?_; refine r_icmp rfl rfl rfl rfl ?_) | (refine g_mark ?_; first | refine gg_splitD rfl rfl (fun _ => ?_) (fun _ => ?_) | refine gg_splitN rfl rfl (fun _ => ?_) (fun _ => ?_) | refine gg_split rfl rfl (fun _ => ?_) (fun _ => ?_)) | (refine k_cond ?_; first | refine t_condS rfl (fun _ => ?_) (fun _ => ?_) | refine t_condSN rfl (fun _ => ?_) (fun _ => ?_) | refine t_condSB rfl (fun _ => ?_) (fun _ => ?_)))
  · omega
  · rename_i h
    refine js (diskB p D x) (fun L => Ent.disk x hx) ?_
    rw [if_pos h]
    exact f1 ()
  · rename_i h
    refine js (diskB p D x) (fun L => Ent.disk x hx) ?_
    rw [if_neg (by simp [h])]
    exact f1 ()
theorem dthere_c (p : Nat) (D : Dk) (s : Nat) (hs : s < 4294967296) (Φ : Base) : Sl.Fn Tryz.prog Φ F.disk_Disk_there [ptr p, kU s] [disk p D] (fun _ : Unit => True) (fun _ => i64 (if D.size ≤ s then 31 else 0)) (fun _ => [disk p D]) := by
  refine fo fun F => ?_
  repeat refine s1 ?_
  refine cl (dsize_c p D Φ) (j_disk fun x hx => ?_)
  dsimp only [List.cons_append, List.nil_append]
  have := hx.sz
  repeat' (first | refine s2 ?_ | (refine k_bin ?_; refine r_icmp rfl rfl rfl rfl ?_) | (refine g_mark ?_; first | refine gg_splitD rfl rfl (fun _ => ?_) (fun _ => ?_) | refine gg_splitN rfl rfl (fun _ => ?_) (fun _ => ?_) | refine gg_split rfl rfl (fun _ => ?_) (fun _ => ?_)) | (refine k_cond ?_; first | refine t_condS rfl (fun _ => ?_) (fun _ => ?_) | refine t_condSN rfl (fun _ => ?_) (fun _ => ?_) | refine t_condSB rfl (fun _ => ?_) (fun _ => ?_)))
  · omega
  all_goals
    rename_i h
    rw [i64_nat (n := s) (by omega)] at h
    refine js (diskB p D x) (fun L => Ent.disk x hx) ?_
  · rw [if_pos (by omega)]; exact f1 ()
  · rw [if_neg (by omega)]; exact f1 ()
def Dk.chg (D : Dk) : Dk := if D.plan = true ∧ D.left = 0 then { D with down := true } else { D with left := if D.plan then D.left - 1 else D.left, calls := IntKind.i64.wrap (D.calls + 1) }
theorem dchange_c (p : Nat) (D : Dk) (hl : D.left ≤ 9223372036854775807) (Φ : Base) : Sl.Fn Tryz.prog Φ F.disk_Disk_change [ptr p] [disk p D] (fun _ : Unit => True) (fun _ => i64 (if D.plan = true ∧ D.left = 0 then 30 else 0)) (fun _ => [disk p D.chg]) := by
  obtain ⟨size, sure, shown, waits, reg, calls, plan, left, down⟩ := D
  refine fo fun F => j_disk fun x hx => ?_
  have hx' : ∀ calls plan left down, DQ ⟨size, sure, shown, waits, reg, calls, plan, left, down⟩ x := fun _ _ _ _ => ⟨hx.s, hx.v, hx.w, hx.sz⟩
  dsimp only [List.cons_append, List.nil_append] at *
  rcases plan with _ | _
  · rw [show Dk.chg ⟨size, sure, shown, waits, reg, calls, false, left, down⟩ = ⟨size, sure, shown, waits, reg, IntKind.i64.wrap (calls + 1), false, left, down⟩ from rfl, if_neg (by simp)]
    repeat refine s2 ?_
    refine r_iop rfl rfl rfl rfl ?_
    repeat refine s1 ?_
    refine so rfl rfl ?_ (by simp [reg.2.1])
    repeat refine s1 ?_
    refine js (diskB p ⟨size, sure, shown, waits, reg, IntKind.i64.wrap (calls + 1), false, left, down⟩ x) (fun L => Ent.disk x (hx' ..)) ?_
    exact f1 ()
  · by_cases h0 : left = 0
    · subst h0
      rw [show Dk.chg ⟨size, sure, shown, waits, reg, calls, true, 0, down⟩ = ⟨size, sure, shown, waits, reg, calls, true, 0, true⟩ from rfl, if_pos (by simp)]
      repeat' (first | refine s2 ?_ | (refine k_bin ?_; refine r_icmp rfl rfl rfl rfl ?_) | (refine g_mark ?_; first | refine gg_splitD rfl rfl (fun _ => ?_) (fun _ => ?_) | refine gg_splitN rfl rfl (fun _ => ?_) (fun _ => ?_) | refine gg_split rfl rfl (fun _ => ?_) (fun _ => ?_)) | (refine k_cond ?_; first | refine t_condS rfl (fun _ => ?_) (fun _ => ?_) | refine t_condSN rfl (fun _ => ?_) (fun _ => ?_) | refine t_condSB rfl (fun _ => ?_) (fun _ => ?_)))
      · refine so rfl rfl ?_ (by simp [reg.2.1])
        repeat refine s1 ?_
        refine js (diskB p ⟨size, sure, shown, waits, reg, calls, true, 0, true⟩ x) (fun L => Ent.disk x (hx' ..)) ?_
        exact f1 ()
      all_goals (rename_i h; exact absurd rfl h)
    · have e1 : Dk.chg ⟨size, sure, shown, waits, reg, calls, true, left, down⟩ = ⟨size, sure, shown, waits, reg, IntKind.i64.wrap (calls + 1), true, left - 1, down⟩ := by simp [Dk.chg, h0]
      rw [e1, if_neg (by simp [h0])]
      repeat' (first | refine s2 ?_ | (refine k_bin ?_; refine r_icmp rfl rfl rfl rfl ?_) | (refine g_mark ?_; first | refine gg_splitD rfl rfl (fun _ => ?_) (fun _ => ?_) | refine gg_splitN rfl rfl (fun _ => ?_) (fun _ => ?_) | refine gg_split rfl rfl (fun _ => ?_) (fun _ => ?_)) | (refine k_cond ?_; first | refine t_condS rfl (fun _ => ?_) (fun _ => ?_) | refine t_condSN rfl (fun _ => ?_) (fun _ => ?_) | refine t_condSB rfl (fun _ => ?_) (fun _ => ?_)))
      · rename_i h; exact absurd (by simpa using h) h0
      refine r_subN (m := left) (n := 1) rfl rfl (by omega) (by omega) rfl ?_
      repeat refine s1 ?_
      refine so rfl rfl ?_ (by simp [reg.2.1])
      repeat refine s1 ?_
      refine r_iop rfl rfl rfl rfl ?_
      repeat refine s1 ?_
      refine so rfl rfl ?_ (by simp [reg.2.1])
      repeat refine s1 ?_
      refine js (diskB p ⟨size, sure, shown, waits, reg, IntKind.i64.wrap (calls + 1), true, left - 1, down⟩ x) (fun L => Ent.disk x (hx' ..)) ?_
      exact f1 ()
theorem dat_c (r : Nat) (l : List (Nat × BS)) (f : Nat → Option (List Nat)) (hq : MQ f l) (M : List BS) (hM : ∀ p ∈ l, p.2 ∈ M) (s : Nat) (Φ : Base) :
    Sl.Fn Tryz.prog Φ F.disk_at [.map (some r), kU s] [mp (isInt .u32) r (emB l), brows M] (fun _ : Option Addr × Nat => True) (fun q => .slice q.1 512 q.2)
      (fun q => [mp (isInt .u32) r (emB l), brow q.1 512 q.2 ((f s).getD (List.replicate 512 0))]) := by
  refine fo fun F => ?_
  repeat refine s1 ?_
  refine r_lookup1 rfl rfl ⟨_, rfl⟩ rfl rfl ?_
  rw [mget_em kU_inj, ← hq.eq]
  rcases hk : alook l s with _ | ⟨a, c, b⟩
  · simp only [Option.map_none, Option.getD_none]
    repeat refine s2 ?_
    refine r_sne rfl rfl rfl ?_
    repeat refine s2 ?_
    refine t_condF rfl rfl ?_
    repeat refine s2 ?_
    refine r_makeSlice (n := 512) (c := 512) rfl rfl (by decide) (by decide) (by decide) rfl rfl rfl (fun b => ?_)
    rw [show List.replicate 512 (Value.int .u8 0) = (List.replicate 512 0).map u8 by rw [List.map_replicate]; rfl]
    refine fz ?_
    repeat refine s1 ?_
    exact f1 (some ⟨b, 0, none⟩, 512)
  · simp only [Option.map_some, Option.getD_some]
    refine j_head (brows M) ?_
    refine j_browAt (hM _ (alook_mem hk)) (fun h1 h2 => ?_)
    dsimp only at *
    refine j_leni (fun _ _ ha => ?_)
    obtain ⟨b0, o0, rfl⟩ := ha (by omega)
    repeat refine s2 ?_
    refine r_sne rfl rfl rfl ?_
    repeat refine s2 ?_
    refine t_condT rfl rfl ?_
    repeat refine s2 ?_
    refine cx (clone_c (some ⟨b0, o0, none⟩) b.length c (b.map u8) (by simp [Value.oneCell']) (by omega) Φ) fun q _ => ?_
    refine fz ?_
    rw [h1]
    repeat refine s1 ?_
    exact f1 q
abbrev zero512 : List Nat := List.replicate 512 0
abbrev Dk.sec (D : Dk) (s : Nat) : List Nat := (D.shown s).getD zero512
def reg0 : BV 64 := ⟨List.replicate 64 0, by simp, fun x hx => by rw [(List.mem_replicate.1 hx).2]; omega⟩
theorem dnew_c (n : Nat) (h1 : 1 ≤ n) (h2 : n ≤ 65536) (Φ : Base) : Sl.Fn Tryz.prog Φ F.disk_New [i64 n] [] (fun _ : Nat => True) (fun p => .tuple #[ptr p, i64 0])
    (fun p => [disk p ⟨n, fun _ => none, fun _ => none, [], reg0, 0, false, 0, false⟩]) := by
  refine fo fun F => ?_
  repeat' (first | refine s2 ?_ | (refine k_bin ?_; refine r_icmp rfl rfl rfl rfl ?_) | (refine g_mark ?_; first | refine gg_splitD rfl rfl (fun _ => ?_) (fun _ => ?_) | refine gg_splitN rfl rfl (fun _ => ?_) (fun _ => ?_) | refine gg_split rfl rfl (fun _ => ?_) (fun _ => ?_)) | (refine k_cond ?_; first | refine t_condS rfl (fun _ => ?_) (fun _ => ?_) | refine t_condSN rfl (fun _ => ?_) (fun _ => ?_) | refine t_condSB rfl (fun _ => ?_) (fun _ => ?_)))
  · omega
  · omega
  refine r_makeMap (isInt .u32) rfl rfl (fun m1 => ?_)
  refine r_makeMap (isInt .u32) rfl rfl (fun m2 => ?_)
  refine r_build (cells := dcells ⟨n, fun _ => none, fun _ => none, [], reg0, 0, false, 0, false⟩ ⟨m1, m2, none, 0, [], [], []⟩) rfl (by rfl) rfl ?_
  refine r_box (cs := dcells ⟨n, fun _ => none, fun _ => none, [], reg0, 0, false, 0, false⟩ ⟨m1, m2, none, 0, [], [], []⟩) rfl rfl rfl rfl (fun p => ?_)
  refine j_ent (Ent.vecNil (E := T.disk_write) (s := 2) _) ?_
  refine j_ent (Ent.browsNil _) ?_
  repeat refine s1 ?_
  refine js [pt p (.cells (dcells ⟨n, fun _ => none, fun _ => none, [], reg0, 0, false, 0, false⟩ ⟨m1, m2, none, 0, [], [], []⟩).toArray T.disk_Disk (0, 0)), mp (isInt .u32) m1 [], mp (isInt .u32) m2 [], vec none 0 0 T.disk_write 2 [], brows []] (fun L => Ent.disk (D := ⟨n, fun _ => none, fun _ => none, [], reg0, 0, false, 0, false⟩) ⟨m1, m2, none, 0, [], [], []⟩ ⟨⟨by simp, fun _ => rfl⟩, ⟨by simp, fun _ => rfl⟩, rfl, h1, h2⟩) ?_
  exact f2 p
theorem dread_c (p : Nat) (D : Dk) (s : Nat) (hs : s < 4294967296) (hd : D.down = false) (hq : s < D.size) (Φ : Base) : Sl.Fn Tryz.prog Φ F.disk_Disk_Read [ptr p, kU s] [disk p D] (fun _ : Option Addr × Nat => True)
    (fun q => .tuple #[.slice q.1 512 q.2, i64 0]) (fun q => [disk p D, brow q.1 512 q.2 (D.sec s)]) := by
  refine fo fun F => ?_
  repeat refine s1 ?_
  refine cl (dask_c p D Φ) ?_
  rw [hd, if_neg (by simp)]
  repeat refine s2 ?_
  refine cl (dthere_c p D s hs Φ) ?_
  rw [if_neg (by omega)]
  repeat refine s2 ?_
  refine j_disk fun x hx => ?_
  dsimp only [List.cons_append, List.nil_append]
  repeat refine s1 ?_
  refine cx (dat_c x.nv x.lv D.shown hx.v (x.ls.map Prod.snd ++ x.lv.map Prod.snd ++ x.lw.map Prod.snd) (fun p hp => by simp; exact .inr (.inl ⟨p.1, hp⟩)) s Φ) fun q _ => ?_
  repeat refine s1 ?_
  refine js (diskB p D x) (fun L => Ent.disk x hx) ?_
  exact f2 q
theorem dread_d (p : Nat) (D : Dk) (s : Nat) (hd : D.down = true) (Φ : Base) : Sl.Fn Tryz.prog Φ F.disk_Disk_Read [ptr p, kU s] [disk p D] (fun _ : Unit => True) (fun _ => .tuple #[.slice none 0 0, i64 30]) (fun _ => [disk p D]) := by
  refine fo fun F => ?_
  repeat refine s1 ?_
  refine cl (dask_c p D Φ) ?_
  rw [hd, if_pos (by simp)]
  repeat refine s2 ?_
  exact f2 ()
/-- a write: it is shown, and it waits. -/
def Dk.wr (D : Dk) (s : Nat) (b : List Nat) : Dk := { D.chg with shown := upd D.shown s (some b), waits := D.waits ++ [(s, b)] }
theorem dwrite_c (p : Nat) (D : Dk) (s : Nat) (hs : s < 4294967296) (hd : D.down = false) (hq : s < D.size) (hp : ¬ (D.plan = true ∧ D.left = 0)) (hl : D.left ≤ 9223372036854775807) (hw : D.waits.length ≤ 1000000000) (a : Option Addr) (cap : Nat) (b : List Nat) (hb : b.length = 512) (hx' : ∀ x ∈ b, x < 256) (Φ : Base) :
    Sl.Fn Tryz.prog Φ F.disk_Disk_Write [ptr p, kU s, .slice a 512 cap] [disk p D, brow a 512 cap b] (fun _ : Unit => True) (fun _ => i64 0) (fun _ => [disk p (D.wr s b)]) := by
  refine fo fun F => ?_
  repeat refine s1 ?_
  refine cl (dask_c p D Φ) ?_
  rw [hd, if_neg (by simp)]
  repeat refine s2 ?_
  refine cl (dthere_c p D s hs Φ) ?_
  rw [if_neg (by omega)]
  repeat refine s2 ?_
  refine cl (dchange_c p D hl Φ) ?_
  rw [if_neg hp]
  repeat refine s2 ?_
  refine cx (clone_c a 512 cap (b.map u8) (by simp [Value.oneCell']) (by omega) Φ) fun q _ => ?_
  refine fz ?_
  have hc1 : D.chg.waits = D.waits ∧ D.chg.shown = D.shown := by unfold Dk.chg; split <;> exact ⟨rfl, rfl⟩
  have hwr : D.wr s b = { D.chg with shown := upd D.chg.shown s (some b), waits := D.chg.waits ++ [(s, b)] } := by rw [hc1.1, hc1.2]; rfl
  rw [hwr]
  have hw : D.chg.waits.length ≤ 1000000000 := by rw [hc1.1]; exact hw
  clear hwr hc1
  generalize D.chg = E at *
  refine j_head (disk p E) (j_disk fun x hx => ?_)
  dsimp only [List.cons_append, List.nil_append]
  have hlw : x.lw.length ≤ 1000000000 := by have := congrArg List.length hx.w; simp at this; omega
  have hv : Value.slice q.1 512 q.2 = vB ⟨q.1, q.2, b⟩ := by simp [vB, hb]
  repeat refine s1 ?_
  rw [hv]
  refine r_mapUpd rfl rfl rfl ⟨_, rfl⟩ rfl ?_
  rw [mset_em kU_inj]
  repeat refine s1 ?_
  refine r_build (cells := [kU s, vB ⟨q.1, q.2, b⟩]) rfl rfl rfl ?_
  refine r_build2s [.tmp 45] [(kU s, vB ⟨q.1, q.2, b⟩)] rfl rfl (by simp) rfl rfl rfl (fun b2 => ?_)
  refine r_append (n := x.lw.length) (m := 1) (s := 2) (xs := wcells x.lw) (ys := [kU s, vB ⟨q.1, q.2, b⟩]) rfl rfl (by decide) (by rfl) (by simp [Value.oneCell']) (by omega) (by omega) rfl rfl (fun ta tc _ => ?_)
  repeat refine s1 ?_
  refine so rfl rfl ?_
  repeat refine s1 ?_
  have hn : DQ { E with shown := upd E.shown s (some b), waits := E.waits ++ [(s, b)] } ⟨x.ns, x.nv, ta, tc, x.ls, aset x.lv s ⟨q.1, q.2, b⟩, x.lw ++ [(s, ⟨q.1, q.2, b⟩)]⟩ := ⟨hx.s, hx.v.set s ⟨q.1, q.2, b⟩, by simp [hx.w], hx.sz⟩
  have hbr : ∀ L, Ent (brow q.1 512 q.2 b :: brows (x.ls.map Prod.snd ++ x.lv.map Prod.snd ++ x.lw.map Prod.snd) :: L) (brows (x.ls.map Prod.snd ++ (aset x.lv s ⟨q.1, q.2, b⟩).map Prod.snd ++ (x.lw ++ [(s, (⟨q.1, q.2, b⟩ : BS))]).map Prod.snd) :: L) := fun L => by
    have := Ent.browsAdd (l := x.ls.map Prod.snd ++ x.lv.map Prod.snd ++ x.lw.map Prod.snd) (x := ⟨q.1, q.2, b⟩) hb hx' (l' := x.ls.map Prod.snd ++ (aset x.lv s ⟨q.1, q.2, b⟩).map Prod.snd ++ (x.lw ++ [(s, (⟨q.1, q.2, b⟩ : BS))]).map Prod.snd) (fun y hy => by
      simp only [List.mem_append, List.map_append, List.map_cons, List.map_nil, List.mem_singleton] at hy ⊢
      rcases hy with (hy | hy) | hy | hy
      · exact .inr (.inl (.inl hy))
      · rcases aset_sub y hy with hy | hy
        · exact .inl hy
        · exact .inr (.inl (.inr hy))
      · exact .inr (.inr hy)
      · exact .inl hy) L
    rw [hb] at this
    exact this
  refine js [brow q.1 512 q.2 b, brows (x.ls.map Prod.snd ++ x.lv.map Prod.snd ++ x.lw.map Prod.snd)] hbr ?_
  have hlen : x.lw.length + 1 = (x.lw ++ [(s, (⟨q.1, q.2, b⟩ : BS))]).length := by simp
  have hcl : wcells x.lw ++ [kU s, vB ⟨q.1, q.2, b⟩] = wcells (x.lw ++ [(s, ⟨q.1, q.2, b⟩)]) := by simp [wcells]
  rw [hlen, hcl]
  refine js (diskB p { E with shown := upd E.shown s (some b), waits := E.waits ++ [(s, b)] } ⟨x.ns, x.nv, ta, tc, x.ls, aset x.lv s ⟨q.1, q.2, b⟩, x.lw ++ [(s, ⟨q.1, q.2, b⟩)]⟩) (fun L => Ent.disk _ hn) ?_
  exact f1 ()
theorem dwrite_d (p : Nat) (D : Dk) (s : Nat) (hd : D.down = true) (v : Value) (Φ : Base) : Sl.Fn Tryz.prog Φ F.disk_Disk_Write [ptr p, kU s, v] [disk p D] (fun _ : Unit => True) (fun _ => i64 30) (fun _ => [disk p D]) := by
  refine fo fun F => ?_
  repeat refine s1 ?_
  refine cl (dask_c p D Φ) ?_
  rw [hd, if_pos (by simp)]
  repeat refine s2 ?_
  exact f1 ()
theorem dwrite_p (p : Nat) (D : Dk) (s : Nat) (hs : s < 4294967296) (hd : D.down = false) (hq : s < D.size) (hp : D.plan = true ∧ D.left = 0) (a : Option Addr) (cap : Nat) (Φ : Base) :
    Sl.Fn Tryz.prog Φ F.disk_Disk_Write [ptr p, kU s, .slice a 512 cap] [disk p D] (fun _ : Unit => True) (fun _ => i64 30) (fun _ => [disk p D.chg]) := by
  refine fo fun F => ?_
  repeat refine s1 ?_
  refine cl (dask_c p D Φ) ?_
  rw [hd, if_neg (by simp)]
  repeat refine s2 ?_
  refine cl (dthere_c p D s hs Φ) ?_
  rw [if_neg (by omega)]
  repeat refine s2 ?_
  refine cl (dchange_c p D (by omega) Φ) ?_
  rw [if_pos hp]
  repeat refine s2 ?_
  exact f1 ()
end Go.Proofs.YtcnpkmdooekmgaaGreatDoor
namespace Go.Proofs.YtcnpkmdooekmgaaGreatDoor
structure Rf where
  sec : Nat
  sum : List Nat
structure Nd where
  leaf : Bool
  keys : List Nat
  vals : List (List Nat)
  kids : List Rf
def bytes (n : Nat) (l : List Nat) : Prop := l.length = n ∧ ∀ x ∈ l, x < 256
structure Rf.wt (r : Rf) : Prop where
  sec : r.sec < 4294967296
  sum : bytes 32 r.sum
structure Nd.wt (n : Nd) : Prop where
  keys : ∀ k ∈ n.keys, k < 18446744073709551616
  vals : ∀ v ∈ n.vals, bytes 44 v
  kids : ∀ r ∈ n.kids, r.wt
structure Nd.right (n : Nd) : Prop where
  rise : n.keys.Pairwise (· < ·)
  leaf : n.leaf = true → 1 ≤ n.keys.length ∧ n.keys.length ≤ 9 ∧ n.vals.length = n.keys.length ∧ n.kids = []
  inner : n.leaf = false → 2 ≤ n.keys.length ∧ n.keys.length ≤ 11 ∧ n.kids.length = n.keys.length ∧ n.vals = []
theorem Nd.right.pos {n : Nd} (h : n.right) : 1 ≤ n.keys.length := by
  cases hl : n.leaf
  · have := h.inner hl; omega
  · exact (h.leaf hl).1
theorem Nd.right.most {n : Nd} (h : n.right) : n.keys.length ≤ 11 := by
  cases hl : n.leaf
  · exact (h.inner hl).2.1
  · have := h.leaf hl; omega
def Rf.enc (r : Rf) : List Nat := be 4 r.sec ++ r.sum
def Nd.rows (n : Nd) : List (List Nat) := if n.leaf then List.zipWith (fun k v => be 8 k ++ v) n.keys n.vals else List.zipWith (fun k (r : Rf) => be 8 k ++ r.enc) n.keys n.kids
def padTo (n : Nat) (l : List Nat) : List Nat := l ++ List.replicate (n - l.length) 0
def Nd.head (n : Nd) : List Nat := [if n.leaf then 1 else 2, n.keys.length, 0, 0, 0, 0, 0, 0]
def Nd.enc (n : Nd) : List Nat := padTo 512 (n.head ++ n.rows.flatten)
end Go.Proofs.YtcnpkmdooekmgaaGreatDoor
namespace Go.Proofs.YtcnpkmdooekmgaaGreatDoor
abbrev KV := List (Nat × List Nat)
structure Ch where
  key : Nat
  rf : Rf
  kv : KV
  U : List Nat
def inner (cs : List Ch) : Nd := ⟨false, cs.map (·.key), [], cs.map (·.rf)⟩
def leafN (kv : KV) : Nd := ⟨true, kv.map (·.1), kv.map (·.2), []⟩
def fst? (kv : KV) : Option Nat := kv.head?.map (·.1)
abbrev Srt (kv : KV) : Prop := kv.Pairwise fun a b => a.1 < b.1
abbrev KVok (kv : KV) : Prop := ∀ x ∈ kv, x.1 < 18446744073709551616 ∧ bytes 44 x.2
/-- what stands: a sector's bytes, a kept sector's kids. -/
structure Gd where
  sec : Nat → List Nat
  K : Nat → Option (List Nat)
/-- a node whose kids, if any, are of height h - 1. -/
def NSh (g : Gd) : Nat → Nd → KV → List Nat → Prop
  | 0, n, kv, U => n = leafN kv ∧ U = [] ∧ KVok kv
  | h + 1, n, kv, U => ∃ cs : List Ch, n = inner cs ∧ kv = cs.flatMap (·.kv) ∧ U = cs.flatMap (·.U) ∧
      ∀ c ∈ cs, fst? c.kv = some c.key ∧ c.rf.wt ∧ ∃ m V, NSh g h m c.kv V ∧ m.right ∧ 4 ≤ m.keys.length ∧ g.sec c.rf.sec = m.enc ∧ c.rf.sum = shaM m.enc ∧ g.K c.rf.sec = some (m.kids.map (·.sec)) ∧ c.U = c.rf.sec :: V
/-- a reference's tree, of height h. -/
def Sh (g : Gd) (lo h : Nat) (r : Rf) (kv : KV) (U : List Nat) : Prop :=
  r.wt ∧ ∃ m V, NSh g h m kv V ∧ m.right ∧ lo ≤ m.keys.length ∧ g.sec r.sec = m.enc ∧ r.sum = shaM m.enc ∧ g.K r.sec = some (m.kids.map (·.sec)) ∧ U = r.sec :: V
theorem nsh_succ {g : Gd} {h : Nat} {n : Nd} {kv : KV} {U : List Nat} : NSh g (h + 1) n kv U ↔ ∃ cs : List Ch, n = inner cs ∧ kv = cs.flatMap (·.kv) ∧ U = cs.flatMap (·.U) ∧ ∀ c ∈ cs, fst? c.kv = some c.key ∧ Sh g 4 h c.rf c.kv c.U := Iff.rfl
theorem nsh_mono {g g' : Gd} : ∀ {h : Nat} {n : Nd} {kv : KV} {U : List Nat}, (∀ s ∈ U, g'.sec s = g.sec s ∧ g'.K s = g.K s) → NSh g h n kv U → NSh g' h n kv U
  | 0, _, _, _, _, h => h
  | h + 1, n, kv, U, hU, ⟨cs, e1, e2, e3, e5⟩ => by
    refine ⟨cs, e1, e2, e3, fun c hc => ?_⟩
    obtain ⟨h1, h1', m, V, h2, h3, h5, h6, h7, h8, h9⟩ := e5 c hc
    have hs : ∀ s ∈ c.U, s ∈ U := fun s hs => by rw [e3]; exact List.mem_flatMap.2 ⟨c, hc, hs⟩
    have h0 := hU c.rf.sec (hs _ (by rw [h9]; simp))
    exact ⟨h1, h1', m, V, nsh_mono (fun s hV => hU s (hs s (by rw [h9]; simp [hV]))) h2, h3, h5, by rw [h0.1]; exact h6, h7, by rw [h0.2]; exact h8, h9⟩
theorem sh_mono {g g' : Gd} {lo h : Nat} {r : Rf} {kv : KV} {U : List Nat} (hU : ∀ s ∈ U, g'.sec s = g.sec s ∧ g'.K s = g.K s) (hs : Sh g lo h r kv U) : Sh g' lo h r kv U := by
  obtain ⟨h1, m, V, h2, h3, h5, h6, h7, h8, h9⟩ := hs
  have h0 := hU r.sec (by rw [h9]; simp)
  exact ⟨h1, m, V, nsh_mono (fun s hV => hU s (by rw [h9]; simp [hV])) h2, h3, h5, by rw [h0.1]; exact h6, h7, by rw [h0.2]; exact h8, h9⟩
theorem sh_lo {g : Gd} {lo lo' h : Nat} {r : Rf} {kv : KV} {U : List Nat} (hl : lo' ≤ lo) (hs : Sh g lo h r kv U) : Sh g lo' h r kv U := by
  obtain ⟨h1, m, V, h2, h3, h5, h6⟩ := hs
  exact ⟨h1, m, V, h2, h3, Nat.le_trans hl h5, h6⟩
theorem nsh_kids {g : Gd} {h : Nat} {n : Nd} {kv : KV} {U : List Nat} (hn : NSh g h n kv U) : ∀ r ∈ n.kids, r.sec ∈ U := fun r hr => by
  cases h with
  | zero => rw [hn.1] at hr; cases hr
  | succ h =>
    obtain ⟨ds, f1, f2, f3, f5⟩ := hn
    rw [f1] at hr
    obtain ⟨d, hd, rfl⟩ := List.mem_map.1 hr
    obtain ⟨_, _, _, _, _, _, _, _, _, _, g9⟩ := f5 d hd
    rw [f3]; exact List.mem_flatMap.2 ⟨d, hd, by rw [g9]; simp⟩
theorem nsh_known {g : Gd} : ∀ {h : Nat} {n : Nd} {kv : KV} {U : List Nat}, NSh g h n kv U → ∀ s ∈ U, ∃ ks, g.K s = some ks ∧ ∀ k ∈ ks, k ∈ U
  | 0, _, _, _, ⟨_, e, _⟩, s, hs => by rw [e] at hs; cases hs
  | h + 1, n, kv, U, ⟨cs, e1, e2, e3, e5⟩, s, hs => by
    rw [e3] at hs
    obtain ⟨c, hc, hs⟩ := List.mem_flatMap.1 hs
    obtain ⟨h1, h1', m, V, h2, h3, h5, h6, h7, h8, h9⟩ := e5 c hc
    have up : ∀ k ∈ c.U, k ∈ U := fun k hk => by rw [e3]; exact List.mem_flatMap.2 ⟨c, hc, hk⟩
    rw [h9] at hs
    rcases List.mem_cons.1 hs with rfl | hs
    · refine ⟨_, h8, fun k hk => up k ?_⟩
      rw [h9]
      obtain ⟨r, hr, rfl⟩ := List.mem_map.1 hk
      exact List.mem_cons_of_mem _ (nsh_kids h2 r hr)
    · obtain ⟨ks, a, b⟩ := nsh_known h2 s hs
      exact ⟨ks, a, fun k hk => up k (by rw [h9]; exact List.mem_cons_of_mem _ (b k hk))⟩
theorem sh_known {g : Gd} {lo h : Nat} {r : Rf} {kv : KV} {U : List Nat} (hs : Sh g lo h r kv U) : ∀ s ∈ U, ∃ ks, g.K s = some ks ∧ ∀ k ∈ ks, k ∈ U := by
  obtain ⟨h1, m, V, h2, h3, h5, h6, h7, h8, h9⟩ := hs
  intro s hs
  rw [h9] at hs ⊢
  rcases List.mem_cons.1 hs with rfl | hs
  · refine ⟨_, h8, fun k hk => ?_⟩
    obtain ⟨r', hr, rfl⟩ := List.mem_map.1 hk
    exact List.mem_cons_of_mem _ (nsh_kids h2 r' hr)
  · obtain ⟨ks, a, b⟩ := nsh_known h2 s hs
    exact ⟨ks, a, fun k hk => List.mem_cons_of_mem _ (b k hk)⟩
theorem sh_root {g : Gd} {lo h : Nat} {r : Rf} {kv : KV} {U : List Nat} (hs : Sh g lo h r kv U) : r.sec ∈ U := by
  obtain ⟨h1, m, V, h2, h3, h5, h6, h7, h8, h9⟩ := hs
  rw [h9]; simp
/- well formed -/
theorem nsh_ok {g : Gd} : ∀ {h : Nat} {n : Nd} {kv : KV} {U : List Nat}, NSh g h n kv U → KVok kv
  | 0, _, _, _, h => h.2.2
  | h + 1, n, kv, U, ⟨cs, e1, e2, e3, e5⟩ => fun x hx => by
    rw [e2] at hx
    obtain ⟨c, hc, hx⟩ := List.mem_flatMap.1 hx
    obtain ⟨_, _, m, V, h2, _⟩ := e5 c hc
    exact nsh_ok h2 x hx
theorem fst_mem {kv : KV} {k : Nat} (h : fst? kv = some k) : ∃ v l, kv = (k, v) :: l := by
  cases kv with
  | nil => cases h
  | cons a l => obtain ⟨a, b⟩ := a; simp only [fst?, List.head?_cons, Option.map_some, Option.some.injEq] at h; subst h; exact ⟨b, l, rfl⟩
theorem nsh_wt {g : Gd} {h : Nat} {n : Nd} {kv : KV} {U : List Nat} (hn : NSh g h n kv U) : n.wt := by
  cases h with
  | zero =>
    obtain ⟨rfl, _, hk⟩ := hn
    refine ⟨fun k hk' => ?_, fun v hv => ?_, fun r hr => by cases hr⟩
    · obtain ⟨x, hx, rfl⟩ := List.mem_map.1 hk'; exact (hk x hx).1
    · obtain ⟨x, hx, rfl⟩ := List.mem_map.1 hv; exact (hk x hx).2
  | succ h =>
    obtain ⟨cs, rfl, _, _, e5⟩ := hn
    refine ⟨fun k hk' => ?_, fun v hv => (by cases hv), fun r hr => ?_⟩
    · obtain ⟨c, hc, rfl⟩ := List.mem_map.1 hk'
      obtain ⟨h1, _, m, V, h2, _⟩ := e5 c hc
      obtain ⟨v, l, e⟩ := fst_mem h1
      exact (nsh_ok h2 (c.key, v) (by rw [e]; simp)).1
    · obtain ⟨c, hc, rfl⟩ := List.mem_map.1 hr
      exact (e5 c hc).2.1
theorem heads_rise : ∀ {cs : List Ch}, Srt (cs.flatMap (·.kv)) → (∀ c ∈ cs, fst? c.kv = some c.key) → (cs.map (·.key)).Pairwise (· < ·)
  | [], _, _ => List.Pairwise.nil
  | c :: cs, hs, hf => by
    rw [List.flatMap_cons] at hs
    obtain ⟨h1, h2, h3⟩ := List.pairwise_append.1 hs
    rw [List.map_cons]
    refine List.pairwise_cons.2 ⟨fun k hk => ?_, heads_rise h2 (fun d hd => hf d (by simp [hd]))⟩
    obtain ⟨d, hd, rfl⟩ := List.mem_map.1 hk
    obtain ⟨v, l, e⟩ := fst_mem (hf c (by simp))
    obtain ⟨v', l', e'⟩ := fst_mem (hf d (by simp [hd]))
    exact h3 (c.key, v) (by rw [e]; simp) (d.key, v') (List.mem_flatMap.2 ⟨d, hd, by rw [e']; simp⟩)
theorem nsh_rise {g : Gd} {h : Nat} {n : Nd} {kv : KV} {U : List Nat} (hn : NSh g h n kv U) (hs : Srt kv) : n.keys.Pairwise (· < ·) := by
  cases h with
  | zero =>
    obtain ⟨rfl, _, hk⟩ := hn
    exact List.pairwise_map.2 hs
  | succ h =>
    obtain ⟨cs, rfl, rfl, _, e5⟩ := hn
    exact heads_rise hs (fun c hc => (e5 c hc).1)
theorem nsh_fst {g : Gd} {h : Nat} {n : Nd} {kv : KV} {U : List Nat} (hn : NSh g h n kv U) : n.keys.head? = fst? kv := by
  cases h with
  | zero =>
    obtain ⟨rfl, _, hk⟩ := hn
    simp [leafN, fst?]
  | succ h =>
    obtain ⟨cs, rfl, rfl, _, e5⟩ := hn
    cases cs with
    | nil => rfl
    | cons c cs =>
      obtain ⟨v, l, e⟩ := fst_mem (e5 c (by simp)).1
      simp [inner, fst?, List.flatMap_cons, e]
/- sizes -/
theorem len_flat {α β : Type} (f : α → List β) (l : List α) : (l.flatMap f).length = (l.map fun a => (f a).length).sum := by
  induction l with
  | nil => rfl
  | cons a l ih => simp [List.flatMap_cons]
theorem sum_le {α : Type} (f k : α → Nat) : ∀ (l : List α), (∀ a ∈ l, 3 * f a + 1 ≤ k a) → 3 * (l.map f).sum + l.length ≤ (l.map k).sum
  | [], _ => by simp
  | a :: l, h => by
    have h1 := h a (by simp)
    have h2 := sum_le f k l (fun b hb => h b (by simp [hb]))
    simp only [List.map_cons, List.sum_cons, List.length_cons]; omega
theorem sum_ge {α : Type} (k : α → Nat) (c : Nat) : ∀ (l : List α), (∀ a ∈ l, c ≤ k a) → l.length * c ≤ (l.map k).sum
  | [], _ => by simp
  | a :: l, h => by
    have h1 := h a (by simp)
    have h2 := sum_ge k c l (fun b hb => h b (by simp [hb]))
    simp only [List.map_cons, List.sum_cons, List.length_cons, Nat.succ_mul]; omega
/-- how many nodes, by how many pairs; how many pairs, by the height. -/
theorem nsh_size {g : Gd} : ∀ {h : Nat} {n : Nd} {kv : KV} {U : List Nat}, NSh g h n kv U → 3 * U.length + n.keys.length ≤ kv.length ∧ n.keys.length * 4 ^ h ≤ kv.length
  | 0, _, _, _, ⟨e1, e2, _⟩ => by rw [e1, e2]; simp [leafN]
  | h + 1, n, kv, U, ⟨cs, e1, e2, e3, e5⟩ => by
    have key : ∀ c ∈ cs, 3 * c.U.length + 1 ≤ c.kv.length ∧ 4 ^ (h + 1) ≤ c.kv.length := fun c hc => by
      obtain ⟨h1, h1', m, V, h2, h3, h5, h6, h7, h8, h9⟩ := e5 c hc
      have := nsh_size h2
      have h10 : 4 * 4 ^ h ≤ m.keys.length * 4 ^ h := Nat.mul_le_mul_right _ h5
      rw [h9, List.length_cons, Nat.pow_succ]
      omega
    have hk : n.keys.length = cs.length := by rw [e1]; simp [inner]
    have h1 := sum_le (fun c : Ch => c.U.length) (fun c => c.kv.length) cs (fun c hc => (key c hc).1)
    have h2 := sum_ge (fun c : Ch => c.kv.length) (4 ^ (h + 1)) cs (fun c hc => (key c hc).2)
    rw [e2, e3, len_flat, len_flat, hk]
    exact ⟨h1, h2⟩
theorem sh_size {g : Gd} {lo h : Nat} {r : Rf} {kv : KV} {U : List Nat} (hs : Sh g lo h r kv U) : 3 * U.length + lo ≤ kv.length + 3 ∧ 4 ^ h ≤ kv.length := by
  obtain ⟨h1, m, V, h2, h3, h5, h6, h7, h8, h9⟩ := hs
  have h10 := nsh_size h2
  have h12 : 1 * 4 ^ h ≤ m.keys.length * 4 ^ h := Nat.mul_le_mul_right _ h3.pos
  rw [h9, List.length_cons]
  omega
end Go.Proofs.YtcnpkmdooekmgaaGreatDoor
namespace Go.Proofs.YtcnpkmdooekmgaaGreatDoor
def ins (k : Nat) (v : List Nat) : KV → KV
  | [] => [(k, v)]
  | x :: l => if k < x.1 then (k, v) :: x :: l else if k = x.1 then (k, v) :: l else x :: ins k v l
def del (k : Nat) (kv : KV) : KV := kv.filter fun x => !(x.1 == k)
def get? (k : Nat) : KV → Option (List Nat)
  | [] => none
  | x :: l => if k = x.1 then some x.2 else get? k l
theorem ins_mem {k : Nat} {v : List Nat} : ∀ {l : KV} {x : Nat × List Nat}, x ∈ ins k v l → x = (k, v) ∨ x ∈ l
  | [], x, h => by simpa [ins] using h
  | y :: l, x, h => by
    unfold ins at h
    split at h
    · simpa using h
    · split at h
      · rcases List.mem_cons.1 h with h | h <;> simp [h]
      · rcases List.mem_cons.1 h with h | h
        · simp [h]
        · rcases ins_mem h with h | h <;> simp [h]
theorem ins_srt {k : Nat} {v : List Nat} : ∀ {l : KV}, Srt l → Srt (ins k v l)
  | [], _ => by simp [ins]
  | y :: l, h => by
    obtain ⟨h1, h2⟩ := List.pairwise_cons.1 h
    unfold ins
    split
    · rename_i hk
      refine List.pairwise_cons.2 ⟨fun x hx => ?_, h⟩
      rcases List.mem_cons.1 hx with rfl | hx
      · exact hk
      · exact Nat.lt_trans hk (h1 x hx)
    · split
      · rename_i hk
        exact List.pairwise_cons.2 ⟨fun x hx => by simpa [hk] using h1 x hx, h2⟩
      · refine List.pairwise_cons.2 ⟨fun x hx => ?_, ins_srt h2⟩
        rcases ins_mem hx with rfl | hx
        · simp only; omega
        · exact h1 x hx
theorem ins_ok {k : Nat} {v : List Nat} {l : KV} (hk : k < 18446744073709551616) (hv : bytes 44 v) (h : KVok l) : KVok (ins k v l) := fun x hx => by
  rcases ins_mem hx with rfl | hx
  · exact ⟨hk, hv⟩
  · exact h x hx
theorem ins_left {k : Nat} {v : List Nat} : ∀ {a b : KV}, (∀ x ∈ a, x.1 < k) → ins k v (a ++ b) = a ++ ins k v b
  | [], _, _ => rfl
  | x :: a, b, h => by
    have := h x (by simp)
    rw [List.cons_append, ins, if_neg (by omega), if_neg (by omega), ins_left (fun y hy => h y (by simp [hy]))]; rfl
theorem ins_right {k : Nat} {v : List Nat} : ∀ {a b : KV}, (∀ x ∈ b, k < x.1) → ins k v (a ++ b) = ins k v a ++ b
  | [], [], _ => rfl
  | [], y :: b, h => by
    have := h y (by simp)
    show ins k v (y :: b) = [(k, v)] ++ y :: b
    unfold ins; rw [if_pos this]; rfl
  | x :: a, b, h => by
    rw [List.cons_append, ins, ins, ins_right h]
    split
    · rfl
    · split <;> rfl
theorem ins_len {k : Nat} {v : List Nat} : ∀ (l : KV), l.length ≤ (ins k v l).length ∧ (ins k v l).length ≤ l.length + 1
  | [] => by simp [ins]
  | x :: l => by
    have := ins_len (k := k) (v := v) l
    unfold ins
    split
    · simp
    · split <;> simp <;> omega
theorem get_none {k : Nat} : ∀ {l : KV}, (∀ x ∈ l, x.1 ≠ k) → get? k l = none
  | [], _ => rfl
  | x :: l, h => by rw [get?, if_neg (fun e => h x (by simp) e.symm), get_none (fun y hy => h y (by simp [hy]))]
theorem get_app {k : Nat} : ∀ (a b : KV), get? k (a ++ b) = (get? k a).or (get? k b)
  | [], _ => rfl
  | x :: a, b => by
    rw [List.cons_append, get?, get?, get_app a b]
    split <;> rfl
theorem get_mem {k : Nat} {v : List Nat} : ∀ {l : KV}, get? k l = some v → (k, v) ∈ l
  | x :: l, h => by
    unfold get? at h
    split at h
    · rename_i hk; obtain rfl := Option.some.inj h; subst hk; simp
    · exact List.mem_cons_of_mem _ (get_mem h)
theorem del_app {k : Nat} (a b : KV) : del k (a ++ b) = del k a ++ del k b := List.filter_append ..
theorem del_none {k : Nat} {l : KV} (h : ∀ x ∈ l, x.1 ≠ k) : del k l = l := List.filter_eq_self.2 fun x hx => by simp [h x hx]
theorem del_srt {k : Nat} {l : KV} (h : Srt l) : Srt (del k l) := h.sublist List.filter_sublist
theorem del_ok {k : Nat} {l : KV} (h : KVok l) : KVok (del k l) := fun x hx => h x (List.mem_filter.1 hx).1
theorem del_le {k : Nat} {l : KV} : (del k l).length ≤ l.length := List.length_filter_le ..
/- the kid that a key leads to -/
def way (ks : List Nat) (k : Nat) : Nat := ks.countP (· ≤ k) - 1
theorem count0 {ks : List Nat} {k : Nat} (h : ∀ x ∈ ks, k < x) : ks.countP (· ≤ k) = 0 := List.countP_eq_zero.2 fun x hx => by have := h x hx; simp; omega
theorem way_cut {k : Nat} : ∀ {cs : List Ch}, cs ≠ [] → (cs.map (·.key)).Pairwise (· < ·) → ∃ A c B, cs = A ++ c :: B ∧ A.length = way (cs.map (·.key)) k ∧ (A ≠ [] → c.key ≤ k) ∧ ∀ b ∈ B, k < b.key
  | [c], _, _ => ⟨[], c, [], rfl, by simp only [way, List.map_cons, List.map_nil, List.countP_cons, List.countP_nil, List.length_nil]; split <;> rfl, by simp, by simp⟩
  | c :: d :: cs, _, h => by
    rw [List.map_cons] at h
    obtain ⟨h1, h2⟩ := List.pairwise_cons.1 h
    by_cases hk : k < d.key
    · have h3 : ∀ x ∈ (d :: cs).map (·.key), k < x := fun x hx => by
        rw [List.map_cons] at hx h2
        rcases List.mem_cons.1 hx with rfl | hx
        · exact hk
        · exact Nat.lt_trans hk ((List.pairwise_cons.1 h2).1 x hx)
      refine ⟨[], c, d :: cs, rfl, ?_, by simp, fun b hb => h3 b.key (List.mem_map.2 ⟨b, hb, rfl⟩)⟩
      rw [way, List.map_cons, List.countP_cons, count0 h3]
      split <;> rfl
    · obtain ⟨A, c', B, e1, e2, e3, e4⟩ := way_cut (k := k) (cs := d :: cs) (by simp) h2
      have h5 : c.key < d.key := h1 d.key (by simp)
      refine ⟨c :: A, c', B, by rw [e1]; rfl, ?_, fun _ => ?_, e4⟩
      · have h6 : 1 ≤ ((d :: cs).map (·.key)).countP (· ≤ k) := by
          rw [List.map_cons, List.countP_cons, if_pos (by simp; omega)]; omega
        have h7 : (List.map (fun x => x.key) (c :: d :: cs)).countP (· ≤ k) = ((d :: cs).map (·.key)).countP (· ≤ k) + 1 := by
          rw [List.map_cons, List.countP_cons, if_pos (by simp; omega)]
        rw [List.length_cons, e2, way, way, h7]
        omega
      · by_cases hA : A = []
        · subst hA
          simp only [List.nil_append, List.cons.injEq] at e1
          rw [← e1.1]; omega
        · exact e3 hA
/-- what stands left and right of the kid that a key leads to. -/
theorem way_sides {k : Nat} {A B : List Ch} {c : Ch} (hs : Srt ((A ++ c :: B).flatMap (·.kv))) (hf : ∀ d ∈ A ++ c :: B, fst? d.kv = some d.key) (h1 : A ≠ [] → c.key ≤ k) (h2 : ∀ b ∈ B, k < b.key) :
    (∀ x ∈ A.flatMap (·.kv), x.1 < k) ∧ (∀ x ∈ B.flatMap (·.kv), k < x.1) := by
  rw [List.flatMap_append, List.flatMap_cons] at hs
  obtain ⟨p1, p2, p3⟩ := List.pairwise_append.1 hs
  obtain ⟨q1, q2, q3⟩ := List.pairwise_append.1 p2
  constructor
  · intro x hx
    obtain ⟨v, l, e⟩ := fst_mem (hf c (by simp))
    have h3 := p3 x hx (c.key, v) (by rw [e]; simp)
    have h4 := h1 (fun e => by rw [e] at hx; cases hx)
    simp only at h3; omega
  · intro x hx
    obtain ⟨b, hb, hx⟩ := List.mem_flatMap.1 hx
    have h3 := h2 b hb
    obtain ⟨v, l, e⟩ := fst_mem (hf b (by simp [hb]))
    have h4 : Srt b.kv := by
      obtain ⟨B1, B2, rfl⟩ := List.append_of_mem hb
      rw [List.flatMap_append, List.flatMap_cons] at q2
      exact (List.pairwise_append.1 (List.pairwise_append.1 q2).2.1).1
    rw [e] at hx h4
    rcases List.mem_cons.1 hx with rfl | hx
    · exact h3
    · have := (List.pairwise_cons.1 h4).1 x hx
      simp only at this; omega
theorem ins_mid {k : Nat} {v : List Nat} {A B : List Ch} {c : Ch} (h1 : ∀ x ∈ A.flatMap (·.kv), x.1 < k) (h2 : ∀ x ∈ B.flatMap (·.kv), k < x.1) :
    ins k v ((A ++ c :: B).flatMap (·.kv)) = A.flatMap (·.kv) ++ (ins k v c.kv ++ B.flatMap (·.kv)) := by
  rw [List.flatMap_append, List.flatMap_cons, ins_left h1, ins_right h2]
theorem del_mid {k : Nat} {A B : List Ch} {c : Ch} (h1 : ∀ x ∈ A.flatMap (·.kv), x.1 < k) (h2 : ∀ x ∈ B.flatMap (·.kv), k < x.1) :
    del k ((A ++ c :: B).flatMap (·.kv)) = A.flatMap (·.kv) ++ (del k c.kv ++ B.flatMap (·.kv)) := by
  rw [List.flatMap_append, List.flatMap_cons, del_app, del_app, del_none (l := A.flatMap _) (fun x hx => by have := h1 x hx; omega), del_none (l := B.flatMap _) (fun x hx => by have := h2 x hx; omega)]
theorem get_mid {k : Nat} {A B : List Ch} {c : Ch} (h1 : ∀ x ∈ A.flatMap (·.kv), x.1 < k) (h2 : ∀ x ∈ B.flatMap (·.kv), k < x.1) :
    get? k ((A ++ c :: B).flatMap (·.kv)) = get? k c.kv := by
  rw [List.flatMap_append, List.flatMap_cons, get_app, get_app, get_none (l := A.flatMap _) (fun x hx => by have := h1 x hx; omega), get_none (l := B.flatMap _) (fun x hx => by have := h2 x hx; omega)]
  cases get? k c.kv <;> rfl
/- parts -/
def Nd.part (n : Nd) (i j : Nat) : Nd := ⟨n.leaf, (n.keys.take j).drop i, (n.vals.take j).drop i, (n.kids.take j).drop i⟩
def Nd.join (a b : Nd) : Nd := ⟨a.leaf, a.keys ++ b.keys, a.vals ++ b.vals, a.kids ++ b.kids⟩
theorem nsh_part {g : Gd} {h : Nat} {n : Nd} {kv : KV} {U : List Nat} (hn : NSh g h n kv U) (i : Nat) :
    ∃ kv1 kv2 U1 U2, kv = kv1 ++ kv2 ∧ U = U1 ++ U2 ∧ NSh g h (n.part 0 i) kv1 U1 ∧ NSh g h (n.part i n.keys.length) kv2 U2 := by
  cases h with
  | zero =>
    obtain ⟨rfl, rfl, hk⟩ := hn
    refine ⟨kv.take i, kv.drop i, [], [], (List.take_append_drop ..).symm, rfl, ⟨by simp [Nd.part, leafN, List.map_take], rfl, fun x hx => hk x (List.mem_of_mem_take hx)⟩, ⟨?_, rfl, fun x hx => hk x (List.mem_of_mem_drop hx)⟩⟩
    have h1 : (List.map (fun x => x.fst) kv).length = kv.length := by simp
    have h2 : (List.map (fun x => x.snd) kv).take kv.length = List.map (fun x => x.snd) kv := List.take_of_length_le (by simp)
    simp [Nd.part, leafN, List.map_drop, h2]
    rw [List.take_of_length_le (by simp)]
  | succ h =>
    obtain ⟨cs, rfl, rfl, rfl, e⟩ := hn
    refine ⟨(cs.take i).flatMap (·.kv), (cs.drop i).flatMap (·.kv), (cs.take i).flatMap (·.U), (cs.drop i).flatMap (·.U), ?_, ?_, ⟨cs.take i, ?_, rfl, rfl, fun c hc => e c (List.mem_of_mem_take hc)⟩, ⟨cs.drop i, ?_, rfl, rfl, fun c hc => e c (List.mem_of_mem_drop hc)⟩⟩
    · rw [← List.flatMap_append, List.take_append_drop]
    · rw [← List.flatMap_append, List.take_append_drop]
    · simp [Nd.part, inner, List.map_take]
    · simp [Nd.part, inner, List.map_drop]
      rw [List.take_of_length_le (by simp), List.take_of_length_le (by simp)]
      exact ⟨rfl, rfl⟩
theorem nsh_join {g : Gd} {h : Nat} {a b : Nd} {kv1 kv2 : KV} {U1 U2 : List Nat} (ha : NSh g h a kv1 U1) (hb : NSh g h b kv2 U2) : NSh g h (a.join b) (kv1 ++ kv2) (U1 ++ U2) := by
  cases h with
  | zero =>
    obtain ⟨rfl, rfl, h1⟩ := ha
    obtain ⟨rfl, rfl, h2⟩ := hb
    exact ⟨by simp [Nd.join, leafN], rfl, fun x hx => (List.mem_append.1 hx).elim (h1 x) (h2 x)⟩
  | succ h =>
    obtain ⟨cs, rfl, rfl, rfl, e⟩ := ha
    obtain ⟨ds, rfl, rfl, rfl, f⟩ := hb
    exact ⟨cs ++ ds, by simp [Nd.join, inner], by simp, by simp, fun c hc => (List.mem_append.1 hc).elim (e c) (f c)⟩
theorem nsh_leaf {g : Gd} {h : Nat} {a : Nd} {kv : KV} {U : List Nat} (ha : NSh g h a kv U) : a.leaf = (h == 0) := by
  cases h with
  | zero => rw [ha.1]; rfl
  | succ h => obtain ⟨cs, rfl, _⟩ := ha; rfl
theorem nsh_whole {g : Gd} {h : Nat} {a : Nd} {kv : KV} {U : List Nat} (ha : NSh g h a kv U) : if a.leaf then a.vals.length = a.keys.length ∧ a.kids = [] else a.kids.length = a.keys.length ∧ a.vals = [] := by
  cases h with
  | zero => rw [ha.1]; simp [leafN]
  | succ h => obtain ⟨cs, rfl, _⟩ := ha; simp [inner]
theorem nsh_right {g : Gd} {h : Nat} {n : Nd} {kv : KV} {U : List Nat} (hn : NSh g h n kv U) (hs : Srt kv) (hl : 2 ≤ n.keys.length ∨ n.leaf = true ∧ 1 ≤ n.keys.length) (hm : n.keys.length ≤ if n.leaf then 9 else 11) : n.right := by
  have hw := nsh_whole hn
  refine ⟨nsh_rise hn hs, fun h => ?_, fun h => ?_⟩ <;> rw [h] at hw hl hm <;> simp only [if_true, if_false, Bool.false_eq_true] at hw hl hm
  · rcases hl with hl | hl <;> exact ⟨by omega, hm, hw.1, hw.2⟩
  · rcases hl with hl | hl
    · exact ⟨hl, hm, hw.1, hw.2⟩
    · cases hl.1
/-- what is kept of a kid once it was made. -/
theorem sh_of {g : Gd} {lo h : Nat} {n : Nd} {kv : KV} {V : List Nat} {r : Rf} (hn : NSh g h n kv V) (hs : Srt kv) (hl : 2 ≤ n.keys.length ∨ n.leaf = true ∧ 1 ≤ n.keys.length) (hm : n.keys.length ≤ if n.leaf then 9 else 11) (h0 : lo ≤ n.keys.length)
    (hr : r.wt) (h1 : g.sec r.sec = n.enc) (h2 : r.sum = shaM n.enc) (h3 : g.K r.sec = some (n.kids.map (·.sec))) : Sh g lo h r kv (r.sec :: V) :=
  ⟨hr, n, V, hn, nsh_right hn hs hl hm, h0, h1, h2, h3, rfl⟩
theorem nsh_swap {g g' : Gd} {h : Nat} {A B M D : List Ch} {kv' : KV} (hcs : ∀ c ∈ A ++ M ++ B, fst? c.kv = some c.key ∧ Sh g 4 h c.rf c.kv c.U)
    (hg : ∀ c ∈ A ++ B, ∀ s ∈ c.U, g'.sec s = g.sec s ∧ g'.K s = g.K s) (hD : ∀ c ∈ D, fst? c.kv = some c.key ∧ Sh g' 4 h c.rf c.kv c.U) (hkv : kv' = A.flatMap (·.kv) ++ (D.flatMap (·.kv) ++ B.flatMap (·.kv))) :
    NSh g' (h + 1) (inner (A ++ D ++ B)) kv' ((A ++ D ++ B).flatMap (·.U)) := by
  refine ⟨A ++ D ++ B, rfl, by rw [hkv]; simp, rfl, fun c hc => ?_⟩
  rcases List.mem_append.1 hc with hc | hc
  · rcases List.mem_append.1 hc with hc | hc
    · obtain ⟨h1, h2⟩ := hcs c (by simp [hc])
      exact ⟨h1, sh_mono (hg c (by simp [hc])) h2⟩
    · exact hD c hc
  · obtain ⟨h1, h2⟩ := hcs c (by simp [hc])
    exact ⟨h1, sh_mono (hg c (by simp [hc])) h2⟩
end Go.Proofs.YtcnpkmdooekmgaaGreatDoor
namespace Go.Proofs.YtcnpkmdooekmgaaGreatDoor
open Sl
def inn (l : List (Nat × List Nat)) (s : Nat) : Nat := (l.map fun p => p.2.count s).sum
/-- what is kept, and who is held from outside. -/
structure Kok (K : Nat → Option (List Nat)) (E : Nat → Nat) (frm cnt : Nat) : Prop where
  fin : ∃ l, Rep l K
  closed : ∀ s ks, K s = some ks → ∀ k ∈ ks, K k ≠ none
  rng : ∀ s, K s ≠ none → frm ≤ s ∧ s < frm + cnt
  ext : ∀ s, 0 < E s → K s ≠ none
  rk : ∃ rk : Nat → Nat, ∀ p ks, K p = some ks → ∀ k ∈ ks, rk k < rk p
def Tight (K : Nat → Option (List Nat)) (E : Nat → Nat) : Prop := ∀ s, K s ≠ none → 0 < E s ∨ ∃ p ks, K p = some ks ∧ s ∈ ks
/-- what is left when all that is loose was freed. -/
structure Swept (K : Nat → Option (List Nat)) (E : Nat → Nat) (K' : Nat → Option (List Nat)) : Prop where
  sub : ∀ s ks, K' s = some ks → K s = some ks
  closed : ∀ s ks, K' s = some ks → ∀ k ∈ ks, K' k ≠ none
  keep : ∀ s, 0 < E s → K' s = K s
  tight : Tight K' E
theorem sub_len {α : Type} [DecidableEq α] : ∀ {a b : List α}, a.Nodup → (∀ x ∈ a, x ∈ b) → a.length ≤ b.length
  | [], _, _, _ => Nat.zero_le _
  | x :: a, b, hn, h => by
    obtain ⟨h1, h2⟩ := List.nodup_cons.1 hn
    have hx := h x (by simp)
    have := sub_len (a := a) (b := b.erase x) h2 (fun y hy => (List.mem_erase_of_ne (fun e => h1 (by rw [← e]; exact hy))).2 (h y (by simp [hy])))
    rw [List.length_erase_of_mem hx] at this
    have := List.length_pos_of_mem hx
    simp only [List.length_cons]; omega
theorem le_sum {l : List Nat} {x : Nat} (h : x ∈ l) : x ≤ l.sum := by
  induction l with
  | nil => cases h
  | cons a l ih =>
    simp only [List.sum_cons]
    rcases List.mem_cons.1 h with rfl | h
    · omega
    · have := ih h
      omega
theorem rep_keys {β : Type} {l : List (Nat × β)} {K : Nat → Option β} (h : Rep l K) (s : Nat) : s ∈ l.map Prod.fst ↔ K s ≠ none := by
  constructor
  · intro hs
    obtain ⟨p, hp, rfl⟩ := List.mem_map.1 hs
    rw [h.mem.1 hp]; simp
  · intro hs
    obtain ⟨b, hb⟩ := Option.ne_none_iff_exists'.1 hs
    exact List.mem_map.2 ⟨(s, b), h.mem.2 hb, rfl⟩
theorem rep_le {β γ : Type} {l : List (Nat × β)} {K : Nat → Option β} {l' : List (Nat × γ)} {K' : Nat → Option γ} (h : Rep l K) (h' : Rep l' K') (hs : ∀ s, K s ≠ none → K' s ≠ none) : l.length ≤ l'.length := by
  have := sub_len h.nd (b := l'.map Prod.fst) (fun x hx => (rep_keys h' x).2 (hs x ((rep_keys h x).1 hx)))
  simpa using this
open Classical in
noncomputable def card {β : Type} (K : Nat → Option β) : Nat := if h : ∃ l, Rep l K then h.choose.length else 0
theorem card_rep {β : Type} {l : List (Nat × β)} {K : Nat → Option β} (h : Rep l K) : card K = l.length := by
  have hx : ∃ l, Rep l K := ⟨l, h⟩
  unfold card
  rw [dif_pos hx]
  exact Nat.le_antisymm (rep_le hx.choose_spec h (fun _ h => h)) (rep_le h hx.choose_spec (fun _ h => h))
theorem card_le {β γ : Type} {K : Nat → Option β} {K' : Nat → Option γ} (h : ∃ l, Rep l K) (h' : ∃ l, Rep l K') (hs : ∀ s, K s ≠ none → K' s ≠ none) : card K ≤ card K' := by
  obtain ⟨l, h⟩ := h; obtain ⟨l', h'⟩ := h'
  rw [card_rep h, card_rep h']
  exact rep_le h h' hs
theorem card_cover {β : Type} {K : Nat → Option β} (h : ∃ l, Rep l K) {U : List Nat} (hU : ∀ s, K s ≠ none → s ∈ U) : card K ≤ U.length := by
  obtain ⟨l, h⟩ := h
  rw [card_rep h]
  have := sub_len h.nd (b := U) (fun x hx => hU x ((rep_keys h x).1 hx))
  simpa using this
theorem card_rng {K : Nat → Option (List Nat)} {E : Nat → Nat} {f c : Nat} (h : Kok K E f c) : card K ≤ c := by
  have := card_cover h.fin (U := (List.range c).map (f + ·)) (fun s hs => List.mem_map.2 ⟨s - f, by have := h.rng s hs; simp; omega, by have := h.rng s hs; omega⟩)
  simpa using this
/-- where as many are kept as there is room, none is free. -/
theorem card_full {K : Nat → Option (List Nat)} {E : Nat → Nat} {f c : Nat} (h : Kok K E f c) (hs : ∀ i < c, K (f + i) ≠ none) : card K = c := by
  refine Nat.le_antisymm (card_rng h) ?_
  obtain ⟨l, hl⟩ := h.fin
  rw [card_rep hl]
  have := sub_len (a := (List.range c).map (f + ·)) (b := l.map Prod.fst) ?_ ?_
  · simpa using this
  · exact List.Pairwise.map _ (fun a b h => by omega) (List.nodup_range (n := c))
  · intro x hx
    obtain ⟨i, hi, rfl⟩ := List.mem_map.1 hx
    exact (rep_keys hl _).2 (hs i (by simpa using hi))
theorem card_set {β : Type} {K : Nat → Option β} {s : Nat} {ks : β} (h : ∃ l, Rep l K) (hs : K s = none) : card (upd K s (some ks)) = card K + 1 := by
  obtain ⟨l, h⟩ := h
  rw [card_rep (h.set s ks), card_rep h, aset_new (by rw [h.eq]; exact hs)]
  simp
open Classical in
theorem rep_sub {β : Type} {K K' : Nat → Option β} (h : ∃ l, Rep l K) (hs : ∀ s b, K' s = some b → K s = some b) : ∃ l, Rep l K' := by
  obtain ⟨l, h⟩ := h
  have hn : ((l.filter fun p => decide (K' p.1 ≠ none)).map Prod.fst).Nodup := h.nd.sublist (List.Sublist.map _ List.filter_sublist)
  refine ⟨_, hn, fun k => ?_⟩
  cases hk : K' k with
  | none =>
    refine alook_none (fun hm => ?_)
    obtain ⟨p, hp, rfl⟩ := List.mem_map.1 hm
    have := (List.mem_filter.1 hp).2
    simp [hk] at this
  | some b => exact mem_alook hn (List.mem_filter.2 ⟨h.mem.2 (hs k b hk), by simp [hk]⟩)
theorem Swept.ok {K K' : Nat → Option (List Nat)} {E : Nat → Nat} {f c : Nat} (h : Kok K E f c) (s : Swept K E K') : Kok K' E f c := by
  obtain ⟨rk, hr⟩ := h.rk
  have up : ∀ x, K' x ≠ none → K x ≠ none := fun x hx => by
    obtain ⟨ks, hk⟩ := Option.ne_none_iff_exists'.1 hx
    rw [s.sub x ks hk]; simp
  exact ⟨rep_sub h.fin s.sub, s.closed, fun x hx => h.rng x (up x hx), fun x hx => by rw [s.keep x hx]; exact h.ext x hx, rk, fun p ks hp k hk => hr p ks (s.sub p ks hp) k hk⟩
theorem Swept.refl {K : Nat → Option (List Nat)} {E : Nat → Nat} {f c : Nat} (h : Kok K E f c) (t : Tight K E) : Swept K E K := ⟨fun _ _ h => h, h.closed, fun _ _ => rfl, t⟩
theorem Kok.mk' {K : Nat → Option (List Nat)} {E : Nat → Nat} {f c s : Nat} {ks : List Nat} (h : Kok K E f c) (hs : K s = none) (h1 : f ≤ s) (h2 : s < f + c) (hk : ∀ k ∈ ks, K k ≠ none) : Kok (upd K s (some ks)) E f c := by
  obtain ⟨rk, hr⟩ := h.rk
  obtain ⟨l, hl⟩ := h.fin
  have ne : ∀ k, K k ≠ none → k ≠ s := fun k hk e => hk (e ▸ hs)
  have up : ∀ k, K k ≠ none → upd K s (some ks) k ≠ none := fun k hk => by simp only [upd]; rw [if_neg (ne k hk)]; exact hk
  refine ⟨⟨_, hl.set s ks⟩, fun p qs hp k hk' => ?_, fun p hp => ?_, fun p hp => up p (h.ext p hp), fun x => if x = s then (ks.map rk).sum + 1 else rk x, fun p qs hp k hk' => ?_⟩
  · simp only [upd] at hp
    split at hp
    · obtain rfl := Option.some.inj hp; exact up k (hk k hk')
    · exact up k (h.closed p qs hp k hk')
  · simp only [upd] at hp
    split at hp
    · rename_i e; rw [e]; exact ⟨h1, h2⟩
    · exact h.rng p hp
  · simp only [upd] at hp
    split at hp
    · rename_i e
      obtain rfl := Option.some.inj hp
      simp only [e, if_true]
      rw [if_neg (ne k (hk k hk'))]
      have : rk k ≤ (ks.map rk).sum := le_sum (List.mem_map.2 ⟨k, hk', rfl⟩)
      omega
    · rename_i e
      simp only [if_neg e]
      rw [if_neg (ne k (h.closed p qs hp k hk'))]
      exact hr p qs hp k hk'
/-- a set that has all that are held from outside, and the kids of what it has, has all that is kept. -/
theorem cover {K : Nat → Option (List Nat)} {E : Nat → Nat} {f c : Nat} (h : Kok K E f c) (t : Tight K E) (p : Nat → Prop) (h1 : ∀ s, 0 < E s → p s) (h2 : ∀ s ks, p s → K s = some ks → ∀ k ∈ ks, p k) : ∀ s, K s ≠ none → p s := by
  obtain ⟨rk, hr⟩ := h.rk
  obtain ⟨l, hl⟩ := h.fin
  have top : ∀ s, K s ≠ none → rk s ≤ ((l.map Prod.fst).map rk).sum := fun s hs => le_sum (List.mem_map.2 ⟨s, (rep_keys hl s).2 hs, rfl⟩)
  have key : ∀ n s, K s ≠ none → ((l.map Prod.fst).map rk).sum - rk s = n → p s := by
    intro n
    induction n using Nat.strongRecOn with
    | _ n ih =>
      intro s hs hn
      rcases t s hs with h3 | ⟨q, ks, hq, hk⟩
      · exact h1 s h3
      · have hq' : K q ≠ none := by rw [hq]; simp
        have := hr q ks hq s hk
        have := top q hq'
        exact h2 q ks (ih _ (by omega) q hq' rfl) hq s hk
  exact fun s hs => key _ s hs rfl
/- what is known only grows -/
def Gd.le (g g' : Gd) : Prop := ∀ s ks, g.K s = some ks → g'.K s = some ks ∧ g'.sec s = g.sec s
theorem Gd.le_refl (g : Gd) : g.le g := fun _ _ h => ⟨h, rfl⟩
theorem Gd.le_trans {a b c : Gd} (h : a.le b) (k : b.le c) : a.le c := fun s ks hs => ⟨(k s ks (h s ks hs).1).1, (k s ks (h s ks hs).1).2.trans (h s ks hs).2⟩
theorem Gd.le_at {g g' : Gd} (h : g.le g') {s : Nat} (hs : g.K s ≠ none) : g'.sec s = g.sec s ∧ g'.K s = g.K s := by
  obtain ⟨ks, hk⟩ := Option.ne_none_iff_exists'.1 hs
  exact ⟨(h s ks hk).2, by rw [(h s ks hk).1, hk]⟩
theorem sh_le {g g' : Gd} {lo h : Nat} {r : Rf} {kv : KV} {U : List Nat} (hl : g.le g') (hs : Sh g lo h r kv U) : Sh g' lo h r kv U :=
  sh_mono (fun s hU => Gd.le_at hl (by obtain ⟨ks, hk, _⟩ := sh_known hs s hU; rw [hk]; simp)) hs
theorem nsh_le {g g' : Gd} {h : Nat} {n : Nd} {kv : KV} {U : List Nat} (hl : g.le g') (hs : NSh g h n kv U) : NSh g' h n kv U :=
  nsh_mono (fun s hU => Gd.le_at hl (by obtain ⟨ks, hk, _⟩ := nsh_known hs s hU; rw [hk]; simp)) hs
/-- what is freed does not touch a tree whose root is held. -/
theorem nsh_kept {g : Gd} {K' : Nat → Option (List Nat)} (sub : ∀ s ks, K' s = some ks → g.K s = some ks) (closed : ∀ s ks, K' s = some ks → ∀ k ∈ ks, K' k ≠ none) :
    ∀ {h : Nat} {n : Nd} {kv : KV} {U : List Nat}, NSh g h n kv U → (∀ r ∈ n.kids, K' r.sec ≠ none) → ∀ s ∈ U, K' s = g.K s
  | 0, _, _, _, ⟨_, e, _⟩, _, s, hs => by rw [e] at hs; cases hs
  | h + 1, n, kv, U, ⟨cs, e1, e2, e3, e5⟩, hk, s, hs => by
    rw [e3] at hs
    obtain ⟨c, hc, hs⟩ := List.mem_flatMap.1 hs
    obtain ⟨h1, h1', m, V, h2, h3, h5, h6, h7, h8, h9⟩ := e5 c hc
    have h0 := hk c.rf (by rw [e1]; exact List.mem_map.2 ⟨c, hc, rfl⟩)
    obtain ⟨ks, hks⟩ := Option.ne_none_iff_exists'.1 h0
    have h10 := sub _ _ hks
    rw [h9] at hs
    rcases List.mem_cons.1 hs with rfl | hs
    · rw [hks, h10]
    · refine nsh_kept sub closed h2 (fun r hr => ?_) s hs
      refine closed _ _ hks _ ?_
      rw [h8] at h10
      rw [← Option.some.inj h10]
      exact List.mem_map.2 ⟨r, hr, rfl⟩
theorem sh_kept {g : Gd} {K' : Nat → Option (List Nat)} (sub : ∀ s ks, K' s = some ks → g.K s = some ks) (closed : ∀ s ks, K' s = some ks → ∀ k ∈ ks, K' k ≠ none)
    {lo h : Nat} {r : Rf} {kv : KV} {U : List Nat} (hs : Sh g lo h r kv U) (h0 : K' r.sec ≠ none) : ∀ s ∈ U, K' s = g.K s := by
  obtain ⟨h1, m, V, h2, h3, h5, h6, h7, h8, h9⟩ := hs
  obtain ⟨ks, hks⟩ := Option.ne_none_iff_exists'.1 h0
  have h10 := sub _ _ hks
  intro s hs
  rw [h9] at hs
  rcases List.mem_cons.1 hs with rfl | hs
  · rw [hks, h10]
  · refine nsh_kept sub closed h2 (fun r hr => ?_) s hs
    refine closed _ _ hks _ ?_
    rw [h8] at h10
    rw [← Option.some.inj h10]
    exact List.mem_map.2 ⟨r, hr, rfl⟩
end Go.Proofs.YtcnpkmdooekmgaaGreatDoor
