/- The interpreter's text of the functions that are reached: made by program. -/
import Derived.Test.YtjcfpkokcepheaaGreatDoorRows
import Derived.Test.YtjcfpkokcepheaaGreatDoorHxC
set_option linter.all false
namespace Go.Proofs.YtjcfpkokcepheaaGreatDoor
open Go.Abs Go.Proofs
def Tab : List Val := [0,1,56,2,57,49,28,3,61,58,42,50,38,29,17,4,62,47,59,36,45,43,51,22,53,39,33,30,24,18,12,5,63,55,48,27,60,41,37,16,46,35,44,21,52,32,23,11,54,26,40,15,34,20,31,10,25,14,19,9,13,8,7,6].map (.int .u8)
instance : Inhabited Glob := ⟨⟨fun g => if g = 0 then some Tab else none⟩⟩
abbrev F.W12_LiveKnown : Nat := 3
abbrev F.live_Starts : Nat := 4
abbrev F.W12_A : Nat := 5
abbrev F.live_Blocks : Nat := 6
abbrev F.live_Does : Nat := 7
abbrev F.W12_B : Nat := 8
abbrev F.live_Live : Nat := 9
abbrev F.slices_Equal_s_api_LiveStart_api_LiveStart : Nat := 10
abbrev F.slices_Equal_s_api_LiveVar_api_LiveVar : Nat := 11
abbrev F.W12_s : Nat := 12
abbrev F.W12_e : Nat := 13
abbrev F.live_Check : Nat := 14
abbrev F.W12_alloc : Nat := 15
abbrev F.live_Cost : Nat := 16
abbrev F.live_Alloc : Nat := 17
abbrev F.W12_works : Nat := 18
abbrev F.live_opened : Nat := 19
abbrev F.live_program_starts : Nat := 20
abbrev F.W12_ins : Nat := 21
abbrev F.live_program_reached : Nat := 22
abbrev F.live_branches : Nat := 23
abbrev F.live_Blocks_c1 : Nat := 24
abbrev F.slices_Sort_s_int_int : Nat := 25
abbrev F.slices_Compact_s_int_int : Nat := 26
abbrev F.live_named : Nat := 27
abbrev F.live_program_live : Nat := 28
abbrev F.live_set_list : Nat := 29
abbrev F.live_segmented : Nat := 30
abbrev F.live_segment_placed : Nat := 31
abbrev F.live_segment_wrong : Nat := 32
abbrev F.slices_Concat_s_int_int : Nat := 33
abbrev F.live_segment_written : Nat := 34
abbrev F.slices_Clone_s_int_int : Nat := 35
abbrev F.slices_SortStableFunc_s_int_int : Nat := 36
abbrev F.live_Alloc_c1 : Nat := 37
abbrev F.cmp_Compare_int : Nat := 38
abbrev F.live_segment_uses : Nat := 39
abbrev F.live_segment_clashes : Nat := 40
abbrev F.live_Alloc_c2 : Nat := 41
abbrev F.slices_ContainsFunc_s_int_int : Nat := 42
abbrev F.live_Alloc_c2_c1 : Nat := 43
abbrev F.live_set_has : Nat := 44
abbrev F.live_Clashes : Nat := 45
abbrev F.R12_SameBlocks : Nat := 46
abbrev F.R12_SameLists : Nat := 47
abbrev F.R12_SamePairs : Nat := 48
abbrev F.R12_SameAlloc : Nat := 49
abbrev F.code_Depths : Nat := 50
abbrev F.live_shapes : Nat := 51
abbrev F.live_program_stepOf : Nat := 52
abbrev F.live_program_reached_c1 : Nat := 53
abbrev F.slices_pdqsortOrdered_int : Nat := 54
abbrev F.math_bits_Len : Nat := 55
abbrev F.live_variable : Nat := 56
abbrev F.live_bag : Nat := 57
abbrev F.live_set_and : Nat := 58
abbrev F.live_set_less : Nat := 59
abbrev F.math_bits_TrailingZeros64 : Nat := 60
abbrev F.live_segment_wrong_c1 : Nat := 61
abbrev F.live_set_with : Nat := 62
abbrev F.live_segment_begins : Nat := 63
abbrev F.slices_Grow_s_int_int : Nat := 64
abbrev F.slices_stableCmpFunc_int : Nat := 65
abbrev F.cmp_isNaN_int : Nat := 66
abbrev F.slices_Contains_s_int_int : Nat := 67
abbrev F.live_segment_edges : Nat := 68
abbrev F.slices_IndexFunc_s_int_int : Nat := 69
abbrev F.R05_Numbers : Nat := 70
abbrev F.R12_SameVars : Nat := 71
abbrev F.code_Check : Nat := 72
abbrev F.code_Depths_c1 : Nat := 73
abbrev F.code_wanted : Nat := 74
abbrev F.code_all_int : Nat := 75
abbrev F.code_Depths_c2 : Nat := 76
abbrev F.code_depth : Nat := 77
abbrev F.code_follows : Nat := 78
abbrev F.live_count : Nat := 79
abbrev F.live_env : Nat := 80
abbrev F.live_names : Nat := 81
abbrev F.slices_insertionSortOrdered_int : Nat := 82
abbrev F.slices_heapSortOrdered_int : Nat := 83
abbrev F.slices_breakPatternsOrdered_int : Nat := 84
abbrev F.slices_choosePivotOrdered_int : Nat := 85
abbrev F.slices_reverseRangeOrdered_int : Nat := 86
abbrev F.slices_partialInsertionSortOrdered_int : Nat := 87
abbrev F.cmp_Less_int : Nat := 88
abbrev F.slices_partitionEqualOrdered_int : Nat := 89
abbrev F.slices_partitionOrdered_int : Nat := 90
abbrev F.math_bits_Len32 : Nat := 91
abbrev F.math_bits_Len64 : Nat := 92
abbrev F.slices_insertionSortCmpFunc_int : Nat := 93
abbrev F.slices_symMergeCmpFunc_int : Nat := 94
abbrev F.slices_Index_s_int_int : Nat := 95
abbrev F.R05_same : Nat := 96
abbrev F.code_in : Nat := 97
abbrev F.code_constructors : Nat := 98
abbrev F.code_Check_c1 : Nat := 99
abbrev F.code_all_api_TermPat : Nat := 100
abbrev F.code_Check_c2 : Nat := 101
abbrev F.code_few : Nat := 102
abbrev F.code_pattern : Nat := 103
abbrev F.code_all_api_CodeIns : Nat := 104
abbrev F.code_Check_c3 : Nat := 105
abbrev F.code_fields : Nat := 106
abbrev F.code_all_int_c1 : Nat := 107
abbrev F.code_follows_c1 : Nat := 108
abbrev F.code_grown : Nat := 109
abbrev F.code_ends : Nat := 110
abbrev F.slices_siftDownOrdered_int : Nat := 111
abbrev F.slices_nextPowerOfTwo : Nat := 112
abbrev F.slices_xorshift_Next : Nat := 113
abbrev F.slices_medianAdjacentOrdered_int : Nat := 114
abbrev F.slices_medianOrdered_int : Nat := 115
abbrev F.slices_rotateCmpFunc_int : Nat := 116
abbrev F.code_all_api_BindCon : Nat := 117
abbrev F.code_constructors_c1 : Nat := 118
abbrev F.code_great : Nat := 119
abbrev F.slices_ContainsFunc_s_api_TermPat_api_TermPat : Nat := 120
abbrev F.code_all_api_TermPat_c1 : Nat := 121
abbrev F.code_pattern_c1 : Nat := 122
abbrev F.slices_ContainsFunc_s_api_CodeIns_api_CodeIns : Nat := 123
abbrev F.code_all_api_CodeIns_c1 : Nat := 124
abbrev F.code_bound : Nat := 125
abbrev F.slices_order2Ordered_int : Nat := 126
abbrev F.slices_swapRangeCmpFunc_int : Nat := 127
abbrev F.slices_ContainsFunc_s_api_BindCon_api_BindCon : Nat := 128
abbrev F.code_all_api_BindCon_c1 : Nat := 129
abbrev F.slices_IndexFunc_s_api_TermPat_api_TermPat : Nat := 130
abbrev F.slices_IndexFunc_s_api_CodeIns_api_CodeIns : Nat := 131
abbrev F.slices_IndexFunc_s_api_BindCon_api_BindCon : Nat := 132
abbrev F.code_wide_met : Nat := 148
abbrev F.code_least_met : Nat := 149
abbrev F.code_just_met : Nat := 150
def C.W12_LiveKnown : LFunc := { np := 0,res := [.tmp 0],keep := false,body :=
 (.seq (.ops [mC 0 (.bool false)])
 (.seq (.ops [cL 16 F.W12_A [],cL 17 F.live_Starts [(.t 16)],mT 15 17,o 18 (.ext 0 (.t 15)),o 19 (.ext 1 (.t 15)),mT 1 18,mT 2 19])
 (.seq (.ops [cL 21 F.W12_A [],cL 22 F.live_Blocks [(.t 21)],mT 20 22,o 23 (.ext 0 (.t 20)),o 24 (.ext 1 (.t 20)),mT 3 23,mT 4 24])
 (.seq (.ops [cL 26 F.W12_A [],cL 27 F.live_Does [(.t 26),(cI 2)],mT 25 27,o 28 (.ext 0 (.t 25)),o 29 (.ext 1 (.t 25)),o 30 (.ext 2 (.t 25)),mT 5 28,mT 6 29,mT 7 30])
 (.seq (.ops [cL 32 F.W12_B [],cL 33 F.live_Does [(.t 32),(cI 4)],mT 31 33,o 34 (.ext 0 (.t 31)),o 35 (.ext 1 (.t 31)),o 36 (.ext 2 (.t 31)),mT 8 34,mT 9 35,mT 10 36])
 (.seq (.ops [cL 38 F.W12_B [],cL 39 F.live_Live [(.t 38)],mT 37 39,o 40 (.ext 0 (.t 37)),o 41 (.ext 1 (.t 37)),mT 11 40,mT 12 41])
 (.seq (.seq (.ops [mT 42 2,bN 43 .neq (.t 42) (cI 0),mT 44 43,gM 45 44 false 4,gB 46 44 false .neq (.t 45) (cI 0),pO 47 44 46,mT 48 47,gM 49 48 false 7,
 gB 50 48 false .neq (.t 49) (cI 0),pO 51 48 50,mT 52 51,gM 53 52 false 10,gB 54 52 false .neq (.t 53) (cI 0),pO 55 52 54,mT 56 55,gM 57 56 false 12,
 gB 58 56 false .neq (.t 57) (cI 0),pO 59 56 58,mT 60 59,gM 61 60 false 11,gN 62 60 false 61,gB 63 60 false .neq (.t 62) (cI 7),pO 64 60 63,mT 65 64,gM 66 65 false 3,
 gN 67 65 false 66,gB 68 65 false .neq (.t 67) (cI 1),pO 69 65 68])
 (.cond (.t 69)
 (.seq (.ops [mC 0 (.bool false)])
 .ret)
 .skip))
 (.seq (.seq (.draw [mT 70 1,o 71 (.build [(.int .i64 0),(.int .i64 0)] [(0,1,(cI 0)),(1,1,(cI 1))]),o 72 (.bslice 1 2 [(.int .i64 0),(.int .i64 0)] [(0,(.t 71))]),
 cL 73 F.slices_Equal_s_api_LiveStart_api_LiveStart [(.t 70),(.t 72)],nT 74 73,mT 75 74,gM 76 75 false 3,og 77 75 false (.ia 3 (.t 76) (cI 0)),gF 78 75 false 1 77,
 g1 79 75 false 78,gB 80 75 false .neq (.t 79) (cI 7),pO 81 75 80,mT 82 81,gM 83 82 false 3,og 84 82 false (.ia 3 (.t 83) (cI 0)),gF 85 82 false 2 84,g1 86 82 false 85,
 gN 87 82 false 86,gB 88 82 false .gtr (.t 87) (cI 0),pO 89 82 88,mT 90 89,gM 91 90 false 5,gL 92 90 false F.W12_s [(cI 1)],
 og 93 90 false (.bslice 1 2 [(.bool false),(.int .i64 0)] [(0,(.t 92))]),gL 94 90 false F.slices_Equal_s_api_LiveVar_api_LiveVar [(.t 91),(.t 93)],
 og 95 90 false (.un .not (.t 94)),pO 96 90 95,mT 97 96,gM 98 97 false 6,gL 99 97 false F.W12_e [(cI 1)],
 og 100 97 false (.bslice 1 2 [(.bool false),(.int .i64 0)] [(0,(.t 99))]),gL 101 97 false F.slices_Equal_s_api_LiveVar_api_LiveVar [(.t 98),(.t 100)],
 og 102 97 false (.un .not (.t 101)),pO 103 97 102,mT 104 103,gM 105 104 false 8,gL 106 104 false F.W12_s [(cI 0)],gL 107 104 false F.W12_s [(cI 1)],
 og 108 104 false (.bslice 2 2 [(.bool false),(.int .i64 0)] [(0,(.t 106)),(1,(.t 107))]),gL 109 104 false F.slices_Equal_s_api_LiveVar_api_LiveVar [(.t 105),(.t 108)],
 og 110 104 false (.un .not (.t 109)),pO 111 104 110,mT 112 111,gM 113 112 false 9,gN 114 112 false 113,gB 115 112 false .gtr (.t 114) (cI 0),pO 116 112 115,mT 117 116,
 gM 118 117 false 11,og 119 117 false (.ia 1 (.t 118) (cI 0)),g1 120 117 false 119,gL 121 117 false F.W12_e [(cI 0)],
 og 122 117 false (.bslice 1 2 [(.bool false),(.int .i64 0)] [(0,(.t 121))]),gL 123 117 false F.slices_Equal_s_api_LiveVar_api_LiveVar [(.t 120),(.t 122)],
 og 124 117 false (.un .not (.t 123)),pO 125 117 124,mT 126 125,gM 127 126 false 11,og 128 126 false (.ia 1 (.t 127) (cI 4)),g1 129 126 false 128,
 gL 130 126 false F.W12_s [(cI 0)],gL 131 126 false F.W12_s [(cI 1)],og 132 126 false (.bslice 2 2 [(.bool false),(.int .i64 0)] [(0,(.t 130)),(1,(.t 131))]),
 gL 133 126 false F.slices_Equal_s_api_LiveVar_api_LiveVar [(.t 129),(.t 132)],og 134 126 false (.un .not (.t 133)),pO 135 126 134]
 [(49,51),(50,51),(49,52),(50,52),(58,60),(59,60),(58,61),(59,61),(58,62),(59,62)])
 (.cond (.t 135)
 (.seq (.ops [mC 0 (.bool false)])
 .ret)
 .skip))
 (.seq (.ops [cL 137 F.W12_A [],o 138 (.bslice 4 1 [(.int .i64 0)] [(0,(cI 0)),(1,(cI 1)),(2,(cI 1)),(3,(cI 1))]),cL 139 F.W12_alloc [(.t 138)],
 cL 140 F.live_Check [(.t 137),(cI 0),(.t 139)],mT 136 140,o 141 (.ext 0 (.t 136)),o 142 (.ext 1 (.t 136)),mT 13 141,mT 2 142])
 (.seq (.ops [cL 144 F.W12_A [],o 145 (.bslice 4 1 [(.int .i64 0)] [(0,(cI 1)),(1,(cI 0)),(2,(cI 0)),(3,(cI 0))]),cL 146 F.W12_alloc [(.t 145)],
 cL 147 F.live_Cost [(.t 144),(cI 0),(.t 146),(cI 2)],mT 143 147,o 148 (.ext 0 (.t 143)),o 149 (.ext 1 (.t 143)),mT 14 148,mT 4 149])
 (.seq (.ops [cL 151 F.W12_A [],cL 152 F.live_Alloc [(.t 151),(cI 1)],mT 150 152,o 153 (.ext 0 (.t 150)),o 154 (.ext 1 (.t 150)),mT 7 154])
 (.seq (.ops [o 156 (.build [(.cl []),(.cl []),(.cl []),(.int .i64 0),(.cl [])] []),cL 157 F.live_Starts [(.t 156)],mT 155 157,o 158 (.ext 0 (.t 155)),
 o 159 (.ext 1 (.t 155)),mT 10 159])
 (.seq (.ops [cL 161 F.W12_A [],cL 162 F.live_Does [(.t 161),(cI 7)],mT 160 162,o 163 (.ext 0 (.t 160)),o 164 (.ext 1 (.t 160)),o 165 (.ext 2 (.t 160)),mT 12 165])
 (.seq (.ops [mT 166 2,bN 167 .eql (.t 166) (cI 0),mT 168 167,gM 169 168 true 13,gB 170 168 true .eql (.t 169) (cI 0),pA 171 168 170,mT 172 171,gM 173 172 true 4,
 gB 174 172 true .eql (.t 173) (cI 0),pA 175 172 174,mT 176 175,gM 177 176 true 14,gB 178 176 true .eql (.t 177) (cI 0),pA 179 176 178,mT 180 179,gM 181 180 true 7,
 gB 182 180 true .eql (.t 181) (cI 5),pA 183 180 182,mT 184 183,gM 185 184 true 10,gB 186 184 true .eql (.t 185) (cI 2),pA 187 184 186,mT 188 187,gM 189 188 true 12,
 gB 190 188 true .eql (.t 189) (cI 5),pA 191 188 190,mT 192 191,gL 193 192 true F.W12_works [],pA 194 192 193,mT 0 194])
 .ret)))))))))))))) }
def C.live_Starts : LFunc := { np := 1,res := [.tmp 2,.tmp 3],keep := false,body :=
 (.seq (.ops [bX 1 5 0,mC 2 (.cl []),mC 3 (.int .i64 0)])
 (.seq (.ops [lT 10 5 1,cL 11 F.live_opened [(.t 10)],mT 9 11,o 12 (.ext 0 (.t 9)),o 13 (.ext 1 (.t 9)),mT 4 12,mT 5 13])
 (.seq (.seq (.ops [mT 14 5,bN 15 .neq (.t 14) (cI 0)])
 (.cond (.t 15)
 (.seq (.ops [mT 16 5,mC 2 (.cl []),mT 3 16])
 .ret)
 .skip))
 (.seq (.ops [mC 6 (.cl [])])
 (.seq (.seq (.ops [mT 17 4,cL 18 F.live_program_starts [(.t 17)],lN 19 18,mC 20 (.int .i64 0)])
 (.block 0 (.loop (.seq (.ops [bN 21 .lss (.t 20) (.t 19)])
 (.seq (.cond (.t 21)
 .skip
 (.exit 0))
 (.seq (.block 1 (.seq (.ops [mT 22 20,iA 23 1 18 20,l1 24 23,mT 7 22,mT 8 24])
 (.seq (.ops [mT 25 8])
 (.cond (.t 25)
 (.ops [mT 26 6,mT 27 7,mT 28 4,nK 29 28,fA 30 5 29,l1 31 30,mT 32 7,iA 33 3 31 32,fA 34 2 33,l1 35 34,
 o 36 (.build [(.int .i64 0),(.int .i64 0)] [(0,1,(.t 27)),(1,1,(.t 35))]),o 37 (.bslice 1 2 [(.int .i64 0),(.int .i64 0)] [(0,(.t 36))]),
 o 38 (.append 2 (.t 26) (.t 37)),mT 6 38])
 .skip))))
 (.ops [bN 39 .add (.t 20) (cI 1),mT 20 39])))))))
 (.seq (.ops [mT 40 6,mT 2 40,mC 3 (.int .i64 0)])
 .ret)))))) }
def C.W12_A : LFunc := { np := 0,res := [.cell 0 true 5],keep := false,body :=
 (.seq (.ops [o 0 (.alloc [(.cl []),(.cl []),(.cl []),(.int .i64 0),(.cl [])])])
 (.seq (.ops [cL 1 F.W12_ins [(cI 1),(cI 1)],cL 2 F.W12_ins [(cI 1),(cI 2)],cL 3 F.W12_ins [(cI 9),(cI 0)],cL 4 F.W12_ins [(cI 4),(cI 1)],
 cL 5 F.W12_ins [(cI 10),(cI 1)],cL 6 F.W12_ins [(cI 13),(cI 0)],cL 7 F.W12_ins [(cI 34),(cI 0)],
 o 8 (.bslice 7 3 [(.int .i64 0),(.int .i64 0),(.int .i64 0)] [(0,(.t 1)),(1,(.t 2)),(2,(.t 3)),(3,(.t 4)),(4,(.t 5)),(5,(.t 6)),(6,(.t 7))]),
 o 9 (.bslice 1 1 [(.int .i64 0)] [(0,(cI 0))]),o 10 (.build [(.cl []),(.cl []),(.cl []),(.int .i64 0),(.cl [])] [(0,1,(.t 8)),(2,1,(.t 9))]),sT 5 0 10])
 .ret)) }
def C.live_Blocks : LFunc := { np := 1,res := [.tmp 2,.tmp 3],keep := false,body :=
 (.seq (.ops [bX 1 5 0,mC 2 (.cl []),mC 3 (.int .i64 0)])
 (.seq (.ops [lT 15 5 1,cL 16 F.live_opened [(.t 15)],mT 14 16,o 17 (.ext 0 (.t 14)),o 18 (.ext 1 (.t 14)),o 4 (.alloc [.nilp]),sT 1 4 17,mT 5 18])
 (.seq (.seq (.ops [mT 19 5,bN 20 .neq (.t 19) (cI 0)])
 (.cond (.t 20)
 (.seq (.ops [mT 21 5,mC 2 (.cl []),mT 3 21])
 .ret)
 .skip))
 (.seq (.ops [l1 22 4,cL 23 F.live_program_starts [(.t 22)],o 6 (.alloc [(.cl [])]),sT 1 6 23])
 (.seq (.seq (.ops [l1 24 4,cL 25 F.live_program_reached [(.t 24)]])
 (.block 0 (.rangeF (.t 25) [26]
 (.ops [mT 7 26])
 (.block 1 (.seq (.ops [l1 27 4,nK 28 27,fA 29 6 28,l1 30 29,mT 31 7,iA 32 3 30 31,fA 33 2 32,l1 34 33,lN 35 34,mC 36 (.int .i64 0)])
 (.block 2 (.loop (.seq (.ops [bN 37 .lss (.t 36) (.t 35)])
 (.seq (.cond (.t 37)
 .skip
 (.exit 2))
 (.seq (.block 3 (.seq (.ops [iA 38 2 34 36,lT 39 2 38,o 9 (.alloc [(.int .i64 0),(.cl [])]),sT 2 9 39])
 (.seq (.ops [l1 40 4,nK 41 40,fA 42 0 41,fA 43 0 42,l1 44 43,mT 45 7,iA 46 3 44 45,fA 47 0 46,l1 48 47,cL 49 F.live_branches [(.t 48)]])
 (.cond (.t 49)
 (.ops [l1 50 6,fA 51 0 9,l1 52 51,iA 53 1 50 52,on (.store 1 (.t 53) (cB true))])
 .skip))))
 (.ops [bN 54 .add (.t 36) (cI 1),mT 36 54])))))))))))
 (.seq (.ops [o 10 (.alloc [(.cl [])])])
 (.seq (.ops [o 55 (.mkfn F.live_Blocks_c1 [] [(.t 4),(.t 6),(.t 10)]),mT 11 55])
 (.seq (.seq (.ops [l1 56 6,lN 57 56,mC 58 (.int .i64 0)])
 (.block 4 (.loop (.seq (.ops [bN 59 .lss (.t 58) (.t 57)])
 (.seq (.cond (.t 59)
 .skip
 (.exit 4))
 (.seq (.block 5 (.seq (.ops [mT 60 58,iA 61 1 56 58,l1 62 61,mT 12 60,mT 13 62])
 (.seq (.ops [mT 63 13])
 (.cond (.t 63)
 (.ops [mT 64 11,mT 65 12,o 66 (.icall (.t 64) [(.t 65)])])
 .skip))))
 (.ops [bN 67 .add (.t 58) (cI 1),mT 58 67])))))))
 (.seq (.ops [l1 68 10,mT 2 68,mC 3 (.int .i64 0)])
 .ret))))))))) }
def C.live_Does : LFunc := { np := 2,res := [.tmp 4,.tmp 5,.tmp 6],keep := false,body :=
 (.seq (.ops [bX 2 5 0,mC 4 (.cl []),mC 5 (.cl []),mC 6 (.int .i64 0)])
 (.seq (.ops [lT 10 5 2,cL 11 F.live_opened [(.t 10)],mT 9 11,o 12 (.ext 0 (.t 9)),o 13 (.ext 1 (.t 9)),mT 7 12,mT 8 13])
 (.seq (.seq (.ops [mT 14 8,bN 15 .neq (.t 14) (cI 0)])
 (.cond (.t 15)
 (.seq (.ops [mT 16 8,mC 4 (.cl []),mC 5 (.cl []),mT 6 16])
 .ret)
 .skip))
 (.seq (.seq (.ops [mT 17 1,bN 18 .lss (.t 17) (cI 0),mT 19 18,gM 20 19 false 1,gF 21 19 false 0 2,g1 22 19 false 21,gN 23 19 false 22,
 gB 24 19 false .geq (.t 20) (.t 23),pO 25 19 24,mT 26 25,gM 27 26 false 7,og 28 26 false (.nilck (.t 27)),gF 29 26 false 5 28,g1 30 26 false 29,gM 31 26 false 1,
 og 32 26 false (.ia 3 (.t 30) (.t 31)),gF 33 26 false 0 32,g1 34 26 false 33,og 35 26 false (.un .not (.t 34)),pO 36 26 35])
 (.cond (.t 36)
 (.seq (.ops [mC 4 (.cl []),mC 5 (.cl []),mC 6 (.int .i64 5)])
 .ret)
 .skip))
 (.seq (.draw [mT 37 7,nK 38 37,fA 39 6 38,l1 40 39,mT 41 1,iA 42 3 40 41,fA 43 0 42,l1 44 43,cL 45 F.live_named [(.t 44)],mT 46 7,nK 47 46,fA 48 6 47,l1 49 48,mT 50 1,
 iA 51 3 49 50,fA 52 1 51,l1 53 52,cL 54 F.live_named [(.t 53)],mT 4 45,mT 5 54,mC 6 (.int .i64 0)]
 [(8,12),(8,14),(8,16)])
 .ret))))) }
def C.W12_B : LFunc := { np := 0,res := [.cell 0 true 5],keep := false,body :=
 (.seq (.ops [o 0 (.alloc [(.cl []),(.cl []),(.cl []),(.int .i64 0),(.cl [])])])
 (.seq (.ops [cL 1 F.W12_ins [(cI 2),(cI 1)],cL 2 F.W12_ins [(cI 12),(cI 5)],cL 3 F.W12_ins [(cI 5),(cI 0)],cL 4 F.W12_ins [(cI 4),(cI 0)],
 cL 5 F.W12_ins [(cI 8),(cI 0)],cL 6 F.W12_ins [(cI 1),(cI 5)],cL 7 F.W12_ins [(cI 34),(cI 0)],
 o 8 (.bslice 7 3 [(.int .i64 0),(.int .i64 0),(.int .i64 0)] [(0,(.t 1)),(1,(.t 2)),(2,(.t 3)),(3,(.t 4)),(4,(.t 5)),(5,(.t 6)),(6,(.t 7))]),
 o 9 (.bslice 1 1 [(.int .i64 0)] [(0,(cI 0))]),o 10 (.build [(.cl []),(.cl []),(.cl []),(.int .i64 0),(.cl [])] [(0,1,(.t 8)),(2,1,(.t 9))]),sT 5 0 10])
 .ret)) }
def C.live_Live : LFunc := { np := 1,res := [.tmp 2,.tmp 3],keep := false,body :=
 (.seq (.ops [bX 1 5 0,mC 2 (.cl []),mC 3 (.int .i64 0)])
 (.seq (.ops [lT 10 5 1,cL 11 F.live_opened [(.t 10)],mT 9 11,o 12 (.ext 0 (.t 9)),o 13 (.ext 1 (.t 9)),mT 4 12,mT 5 13])
 (.seq (.seq (.ops [mT 14 5,bN 15 .neq (.t 14) (cI 0)])
 (.cond (.t 15)
 (.seq (.ops [mT 16 5,mC 2 (.cl []),mT 3 16])
 .ret)
 .skip))
 (.seq (.ops [mC 6 (.cl [])])
 (.seq (.seq (.ops [mT 17 4,cL 18 F.live_program_live [(.t 17)],lN 19 18,mC 20 (.int .i64 0)])
 (.block 0 (.loop (.seq (.ops [bN 21 .lss (.t 20) (.t 19)])
 (.seq (.cond (.t 21)
 .skip
 (.exit 0))
 (.seq (.block 1 (.seq (.ops [iA 22 2 18 20,lT 23 2 22,o 8 (.alloc [(.int .u64 0),(.int .u64 0)]),sT 2 8 23])
 (.ops [mT 24 6,lT 25 2 8,cL 26 F.live_set_list [(.t 25)],cL 27 F.live_named [(.t 26)],o 28 (.bslice 1 1 [(.cl [])] [(0,(.t 27))]),o 29 (.append 1 (.t 24) (.t 28)),
 mT 6 29])))
 (.ops [bN 30 .add (.t 20) (cI 1),mT 20 30])))))))
 (.seq (.ops [mT 31 6,mT 2 31,mC 3 (.int .i64 0)])
 .ret)))))) }
def C.slices_Equal_s_api_LiveStart_api_LiveStart : LFunc := { np := 2,res := [.tmp 4],keep := false,body :=
 (.seq (.ops [mC 4 (.bool false)])
 (.seq (.seq (.ops [mT 6 0,lN 7 6,mT 8 1,lN 9 8,bN 10 .neq (.t 7) (.t 9)])
 (.cond (.t 10)
 (.seq (.ops [mC 4 (.bool false)])
 .ret)
 .skip))
 (.seq (.seq (.ops [mT 11 0,lN 12 11,mC 13 (.int .i64 0)])
 (.block 0 (.loop (.seq (.ops [bN 14 .lss (.t 13) (.t 12)])
 (.seq (.cond (.t 14)
 .skip
 (.exit 0))
 (.seq (.block 1 (.seq (.ops [mT 15 13,mT 5 15])
 (.seq (.draw [mT 16 0,mT 17 5,iA 18 2 16 17,lT 19 2 18,mT 20 1,mT 21 5,iA 22 2 20 21,lT 23 2 22,o 24 (.bin .neq (.agg [.num,.num]) (.t 19) (.t 23))]
 [])
 (.cond (.t 24)
 (.seq (.ops [mC 4 (.bool false)])
 .ret)
 .skip))))
 (.ops [bN 25 .add (.t 13) (cI 1),mT 13 25])))))))
 (.seq (.ops [mC 4 (.bool true)])
 .ret)))) }
def C.slices_Equal_s_api_LiveVar_api_LiveVar : LFunc := { np := 2,res := [.tmp 4],keep := false,body :=
 (.seq (.ops [mC 4 (.bool false)])
 (.seq (.seq (.ops [mT 6 0,lN 7 6,mT 8 1,lN 9 8,bN 10 .neq (.t 7) (.t 9)])
 (.cond (.t 10)
 (.seq (.ops [mC 4 (.bool false)])
 .ret)
 .skip))
 (.seq (.seq (.ops [mT 11 0,lN 12 11,mC 13 (.int .i64 0)])
 (.block 0 (.loop (.seq (.ops [bN 14 .lss (.t 13) (.t 12)])
 (.seq (.cond (.t 14)
 .skip
 (.exit 0))
 (.seq (.block 1 (.seq (.ops [mT 15 13,mT 5 15])
 (.seq (.draw [mT 16 0,mT 17 5,iA 18 2 16 17,lT 19 2 18,mT 20 1,mT 21 5,iA 22 2 20 21,lT 23 2 22,o 24 (.bin .neq (.agg [.bool,.num]) (.t 19) (.t 23))]
 [])
 (.cond (.t 24)
 (.seq (.ops [mC 4 (.bool false)])
 .ret)
 .skip))))
 (.ops [bN 25 .add (.t 13) (cI 1),mT 13 25])))))))
 (.seq (.ops [mC 4 (.bool true)])
 .ret)))) }
def C.W12_s : LFunc := { np := 1,res := [.cell 2 true 2],keep := false,body :=
 (.seq (.ops [o 2 (.alloc [(.bool false),(.int .i64 0)])])
 (.seq (.ops [mT 3 0,o 4 (.build [(.bool false),(.int .i64 0)] [(1,1,(.t 3))]),sT 2 2 4])
 .ret)) }
def C.W12_e : LFunc := { np := 1,res := [.cell 2 true 2],keep := false,body :=
 (.seq (.ops [o 2 (.alloc [(.bool false),(.int .i64 0)])])
 (.seq (.ops [mT 3 0,o 4 (.build [(.bool false),(.int .i64 0)] [(0,1,(cB true)),(1,1,(.t 3))]),sT 2 2 4])
 .ret)) }
def C.live_Check : LFunc := { np := 3,res := [.tmp 6,.tmp 7],keep := false,body :=
 (.seq (.ops [bX 3 5 0,bX 5 2 2,mC 6 (.int .i64 0),mC 7 (.int .i64 0)])
 (.seq (.ops [lT 15 5 3,mT 16 1,cL 17 F.live_segmented [(.t 15),(.t 16)],mT 14 17,o 18 (.ext 0 (.t 14)),o 19 (.ext 1 (.t 14)),mT 8 18,mT 9 19])
 (.seq (.seq (.ops [mT 20 9,bN 21 .neq (.t 20) (cI 0)])
 (.cond (.t 21)
 (.seq (.ops [mT 22 9,mC 6 (.int .i64 0),mT 7 22])
 .ret)
 .skip))
 (.seq (.ops [mT 24 8,lT 25 2 5,cL 26 F.live_segment_placed [(.t 24),(.t 25)],mT 23 26,o 27 (.ext 0 (.t 23)),o 28 (.ext 1 (.t 23)),
 o 10 (.alloc (List.replicate 90 (.int .i64 0))),sT 90 10 27,mT 11 28])
 (.seq (.seq (.ops [mT 29 11,nT 30 29])
 (.cond (.t 30)
 (.seq (.ops [mC 6 (.int .i64 0),mC 7 (.int .i64 2)])
 .ret)
 .skip))
 (.seq (.seq (.ops [mT 32 8,lT 33 90 10,cL 34 F.live_segment_wrong [(.t 32),(.t 33)],mT 31 34,o 35 (.ext 0 (.t 31)),o 36 (.ext 1 (.t 31)),mT 12 35,mT 13 36])
 (.seq (.ops [mT 37 13])
 (.cond (.t 37)
 (.seq (.ops [mT 38 12,mT 6 38,mC 7 (.int .i64 7)])
 .ret)
 .skip)))
 (.seq (.ops [mC 6 (.int .i64 0),mC 7 (.int .i64 0)])
 .ret))))))) }
def C.W12_alloc : LFunc := { np := 1,res := [.cell 2 true 2],keep := false,body :=
 (.seq (.ops [o 2 (.alloc [(.cl []),(.cl [])])])
 (.seq (.ops [cL 3 F.W12_s [(cI 0)],cL 4 F.W12_s [(cI 1)],cL 5 F.W12_e [(cI 0)],cL 6 F.W12_e [(cI 1)],
 o 7 (.bslice 4 2 [(.bool false),(.int .i64 0)] [(0,(.t 3)),(1,(.t 4)),(2,(.t 5)),(3,(.t 6))]),mT 8 0,o 9 (.build [(.cl []),(.cl [])] [(0,1,(.t 7)),(1,1,(.t 8))]),
 sT 2 2 9])
 .ret)) }
def C.live_Cost : LFunc := { np := 4,res := [.tmp 8,.tmp 9],keep := false,body :=
 (.seq (.ops [bX 4 5 0,bX 6 2 2,mC 8 (.int .i64 0),mC 9 (.int .i64 0)])
 (.seq (.ops [lT 20 5 4,mT 21 1,cL 22 F.live_segmented [(.t 20),(.t 21)],mT 19 22,o 23 (.ext 0 (.t 19)),o 24 (.ext 1 (.t 19)),mT 10 23,mT 11 24])
 (.seq (.seq (.ops [mT 25 11,bN 26 .neq (.t 25) (cI 0)])
 (.cond (.t 26)
 (.seq (.ops [mT 27 11,mC 8 (.int .i64 0),mT 9 27])
 .ret)
 .skip))
 (.seq (.ops [mT 29 10,lT 30 2 6,cL 31 F.live_segment_placed [(.t 29),(.t 30)],mT 28 31,o 32 (.ext 0 (.t 28)),o 33 (.ext 1 (.t 28)),
 o 12 (.alloc (List.replicate 90 (.int .i64 0))),sT 90 12 32,mT 13 33])
 (.seq (.seq (.ops [mT 34 13,nT 35 34,mT 36 35,gM 37 36 false 3,gB 38 36 false .lss (.t 37) (cI 0),pO 39 36 38])
 (.cond (.t 39)
 (.seq (.ops [mC 8 (.int .i64 0),mC 9 (.int .i64 2)])
 .ret)
 .skip))
 (.seq (.ops [mC 14 (.int .i64 0)])
 (.seq (.seq (.ops [mT 40 10,nK 41 40,fA 42 2 41,l1 43 42,lN 44 43,mC 45 (.int .i64 0)])
 (.block 0 (.loop (.seq (.ops [bN 46 .lss (.t 45) (.t 44)])
 (.seq (.cond (.t 46)
 .skip
 (.exit 0))
 (.seq (.block 1 (.seq (.ops [mT 47 45,iA 48 1 43 45,l1 49 48,mT 15 47,mT 16 49])
 (.seq (.draw [mT 50 10,nK 51 50,fA 52 0 51,l1 53 52,nK 54 53,fA 55 6 54,l1 56 55,mT 57 15,iA 58 3 56 57,fA 59 0 58,l1 60 59,mT 61 10,nK 62 61,fA 63 0 62,l1 64 63,
 nK 65 64,fA 66 6 65,l1 67 66,mT 68 15,iA 69 3 67 68,fA 70 1 69,l1 71 70,o 72 (.bslice 2 1 [(.cl [])] [(0,(.t 60)),(1,(.t 71))]),
 cL 73 F.slices_Concat_s_int_int [(.t 72)],lN 74 73,mC 75 (.int .i64 0)]
 [])
 (.block 2 (.loop (.seq (.ops [bN 76 .lss (.t 75) (.t 74)])
 (.seq (.cond (.t 76)
 .skip
 (.exit 2))
 (.seq (.block 3 (.seq (.ops [iA 77 1 73 75,l1 78 77,mT 18 78])
 (.seq (.ops [mT 79 16,mT 80 79,gM 81 80 true 18,og 82 80 true (.iaa 90 1 (.t 12) (.t 81)),g1 83 80 true 82,gM 84 80 true 3,gB 85 80 true .geq (.t 83) (.t 84),
 pA 86 80 85])
 (.cond (.t 86)
 (.ops [mT 87 14,bN 88 .add (.t 87) (cI 1),mT 14 88])
 .skip))))
 (.ops [bN 89 .add (.t 75) (cI 1),mT 75 89])))))))))
 (.ops [bN 90 .add (.t 45) (cI 1),mT 45 90])))))))
 (.seq (.ops [mT 91 14,mT 8 91,mC 9 (.int .i64 0)])
 .ret)))))))) }
def C.live_Alloc : LFunc := { np := 2,res := [.cell 4 true 2,.tmp 5],keep := false,body :=
 (.seq (.ops [bX 2 5 0,o 4 (.alloc [(.cl []),(.cl [])]),mC 5 (.int .i64 0)])
 (.seq (.ops [lT 20 5 2,mT 21 1,cL 22 F.live_segmented [(.t 20),(.t 21)],mT 19 22,o 23 (.ext 0 (.t 19)),o 24 (.ext 1 (.t 19)),o 6 (.alloc [.nilp]),sT 1 6 23,mT 7 24])
 (.seq (.seq (.ops [mT 25 7,bN 26 .neq (.t 25) (cI 0)])
 (.cond (.t 26)
 (.seq (.ops [o 27 (.build [(.cl []),(.cl [])] []),mT 28 7,sT 2 4 27,mT 5 28])
 .ret)
 .skip))
 (.seq (.ops [l1 29 6,cL 30 F.live_segment_written [(.t 29)],cL 31 F.live_set_list [(.t 30)],mT 8 31])
 (.seq (.ops [mT 32 8,cL 33 F.slices_Clone_s_int_int [(.t 32)],o 9 (.alloc [(.cl [])]),sT 1 9 33])
 (.seq (.ops [l1 34 9,o 35 (.mkfn F.live_Alloc_c1 [] [(.t 6)]),o 36 (.icall (.f F.slices_SortStableFunc_s_int_int) [(.t 34),(.t 35)])])
 (.seq (.ops [l1 37 6,cL 38 F.live_segment_clashes [(.t 37)],o 10 (.alloc (List.replicate 180 (.int .u64 0))),sT 180 10 38])
 (.seq (.ops [o 39 (.mkmap),o 11 (.alloc [.nilm]),sT 1 11 39])
 (.seq (.seq (.ops [l1 40 9,lN 41 40,mC 42 (.int .i64 0)])
 (.block 0 (.loop (.seq (.ops [bN 43 .lss (.t 42) (.t 41)])
 (.seq (.cond (.t 43)
 .skip
 (.exit 0))
 (.seq (.block 1 (.seq (.ops [mT 44 42,iA 45 1 40 42,l1 46 45,o 12 (.alloc [(.int .i64 0)]),o 13 (.alloc [(.int .i64 0)]),sT 1 12 44,sT 1 13 46])
 (.seq (.ops [o 47 (.mkfn F.live_Alloc_c2 [] [(.t 9),(.t 12),(.t 11),(.t 10),(.t 13)]),mT 14 47])
 (.seq (.ops [mC 15 (.int .i64 0)])
 (.seq (.block 2 (.loop (.seq (.seq (.ops [mT 48 14,mT 49 15,o 50 (.call (.t 48) [(.t 49)]),nT 51 50])
 (.cond (.t 51)
 .skip
 (.exit 2)))
 (.block 3 (.ops [mT 52 15,bN 53 .add (.t 52) (cI 1),mT 15 53])))))
 (.ops [l1 54 11,l1 55 13,mT 56 15,on (.mput .num (.t 54) (.t 55) (.t 56))]))))))
 (.ops [bN 57 .add (.t 42) (cI 1),mT 42 57])))))))
 (.seq (.ops [mT 58 8,cL 59 F.live_named [(.t 58)],o 60 (.build [(.cl []),(.cl [])] [(0,1,(.t 59))]),o 16 (.alloc [(.cl []),(.cl [])]),sT 2 16 60])
 (.seq (.seq (.ops [mT 61 8,lN 62 61,mC 63 (.int .i64 0)])
 (.block 4 (.loop (.seq (.ops [bN 64 .lss (.t 63) (.t 62)])
 (.seq (.cond (.t 64)
 .skip
 (.exit 4))
 (.seq (.block 5 (.seq (.ops [iA 65 1 61 63,l1 66 65,mT 18 66])
 (.ops [fA 67 1 16,l1 68 67,l1 69 11,mT 70 18,o 71 (.mget .num (.int .i64 0) false (.t 69) (.t 70)),o 72 (.bslice 1 1 [(.int .i64 0)] [(0,(.t 71))]),
 o 73 (.append 1 (.t 68) (.t 72)),fA 74 1 16,sT 1 74 73])))
 (.ops [bN 75 .add (.t 63) (cI 1),mT 63 75])))))))
 (.seq (.ops [lT 76 2 16,sT 2 4 76,mC 5 (.int .i64 0)])
 .ret)))))))))))) }
def C.W12_works : LFunc := { np := 0,res := [.tmp 0],keep := false,body :=
 (.seq (.ops [mC 0 (.bool false)])
 (.seq (.ops [cL 14 F.W12_B [],cL 15 F.live_Blocks [(.t 14)],mT 13 15,o 16 (.ext 0 (.t 13)),o 17 (.ext 1 (.t 13)),mT 1 16,mT 2 17])
 (.seq (.ops [cL 19 F.W12_A [],cL 20 F.live_Live [(.t 19)],mT 18 20,o 21 (.ext 0 (.t 18)),o 22 (.ext 1 (.t 18)),mT 3 21,mT 4 22])
 (.seq (.ops [cL 24 F.W12_A [],cL 25 F.live_Clashes [(.t 24),(cI 0)],mT 23 25,o 26 (.ext 0 (.t 23)),o 27 (.ext 1 (.t 23)),mT 5 26,mT 6 27])
 (.seq (.ops [cL 29 F.W12_A [],cL 30 F.live_Alloc [(.t 29),(cI 0)],mT 28 30,o 31 (.ext 0 (.t 28)),o 32 (.ext 1 (.t 28)),o 7 (.alloc [(.cl []),(.cl [])]),sT 2 7 31,
 mT 8 32])
 (.seq (.ops [cL 34 F.W12_A [],o 35 (.bslice 4 1 [(.int .i64 0)] [(0,(cI 0)),(1,(cI 0)),(2,(cI 0)),(3,(cI 0))]),cL 36 F.W12_alloc [(.t 35)],
 cL 37 F.live_Check [(.t 34),(cI 0),(.t 36)],mT 33 37,o 38 (.ext 0 (.t 33)),o 39 (.ext 1 (.t 33)),mT 9 38,mT 10 39])
 (.seq (.ops [cL 41 F.W12_A [],o 42 (.bslice 4 1 [(.int .i64 0)] [(0,(cI 1)),(1,(cI 0)),(2,(cI 0)),(3,(cI 0))]),cL 43 F.W12_alloc [(.t 42)],
 cL 44 F.live_Cost [(.t 41),(cI 0),(.t 43),(cI 1)],mT 40 44,o 45 (.ext 0 (.t 40)),o 46 (.ext 1 (.t 40)),mT 11 45,mT 12 46])
 (.seq (.seq (.ops [mT 47 2,bN 48 .neq (.t 47) (cI 0),mT 49 48,gM 50 49 false 4,gB 51 49 false .neq (.t 50) (cI 0),pO 52 49 51,mT 53 52,gM 54 53 false 6,
 gB 55 53 false .neq (.t 54) (cI 0),pO 56 53 55,mT 57 56,gM 58 57 false 8,gB 59 57 false .neq (.t 58) (cI 0),pO 60 57 59,mT 61 60,gM 62 61 false 10,
 gB 63 61 false .neq (.t 62) (cI 7),pO 64 61 63,mT 65 64,gM 66 65 false 12,gB 67 65 false .neq (.t 66) (cI 0),pO 68 65 67])
 (.cond (.t 68)
 (.seq (.ops [mC 0 (.bool false)])
 .ret)
 .skip))
 (.seq (.seq (.ops [mT 69 1,o 70 (.bslice 2 1 [(.int .i64 0)] [(0,(cI 2)),(1,(cI 5))]),
 o 71 (.build [(.int .i64 0),(.int .i64 0),(.cl [])] [(0,1,(cI 0)),(1,1,(cI 2)),(2,1,(.t 70))]),
 o 72 (.build [(.int .i64 0),(.int .i64 0),(.cl [])] [(0,1,(cI 2)),(1,1,(cI 5))]),o 73 (.build [(.int .i64 0),(.int .i64 0),(.cl [])] [(0,1,(cI 5)),(1,1,(cI 7))]),
 o 74 (.bslice 3 3 [(.int .i64 0),(.int .i64 0),(.cl [])] [(0,(.t 71)),(1,(.t 72)),(2,(.t 73))]),cL 75 F.R12_SameBlocks [(.t 69),(.t 74)],nT 76 75,mT 77 76,
 gM 78 77 false 3,gL 79 77 false F.W12_s [(cI 0)],og 80 77 false (.bslice 1 2 [(.bool false),(.int .i64 0)] [(0,(.t 79))]),gL 81 77 false F.W12_s [(cI 0)],
 gL 82 77 false F.W12_s [(cI 1)],og 83 77 false (.bslice 2 2 [(.bool false),(.int .i64 0)] [(0,(.t 81)),(1,(.t 82))]),gL 84 77 false F.W12_s [(cI 0)],
 gL 85 77 false F.W12_e [(cI 1)],og 86 77 false (.bslice 2 2 [(.bool false),(.int .i64 0)] [(0,(.t 84)),(1,(.t 85))]),gL 87 77 false F.W12_s [(cI 0)],
 gL 88 77 false F.W12_s [(cI 1)],og 89 77 false (.bslice 2 2 [(.bool false),(.int .i64 0)] [(0,(.t 87)),(1,(.t 88))]),gL 90 77 false F.W12_s [(cI 0)],
 gL 91 77 false F.W12_s [(cI 1)],og 92 77 false (.bslice 2 2 [(.bool false),(.int .i64 0)] [(0,(.t 90)),(1,(.t 91))]),gL 93 77 false F.W12_s [(cI 0)],
 og 94 77 false (.bslice 1 2 [(.bool false),(.int .i64 0)] [(0,(.t 93))]),
 og 95 77 false (.bslice 7 1 [(.cl [])] [(0,(.c (.cl []))),(1,(.t 80)),(2,(.t 83)),(3,(.t 86)),(4,(.t 89)),(5,(.t 92)),(6,(.t 94))]),
 gL 96 77 false F.R12_SameLists [(.t 78),(.t 95)],og 97 77 false (.un .not (.t 96)),pO 98 77 97])
 (.cond (.t 98)
 (.seq (.ops [mC 0 (.bool false)])
 .ret)
 .skip))
 (.seq (.draw [mT 99 5,cL 100 F.W12_s [(cI 0)],cL 101 F.W12_s [(cI 1)],
 o 102 (.build [(.bool false),(.int .i64 0),(.bool false),(.int .i64 0)] [(0,2,(.t 100)),(2,2,(.t 101))]),cL 103 F.W12_s [(cI 0)],cL 104 F.W12_e [(cI 1)],
 o 105 (.build [(.bool false),(.int .i64 0),(.bool false),(.int .i64 0)] [(0,2,(.t 103)),(2,2,(.t 104))]),
 o 106 (.bslice 2 4 [(.bool false),(.int .i64 0),(.bool false),(.int .i64 0)] [(0,(.t 102)),(1,(.t 105))]),cL 107 F.R12_SamePairs [(.t 99),(.t 106)],mT 108 107,
 gT 109 108 true 2 7,og 110 108 true (.bslice 4 1 [(.int .i64 0)] [(0,(cI 1)),(1,(cI 0)),(2,(cI 0)),(3,(cI 0))]),gL 111 108 true F.W12_alloc [(.t 110)],
 gL 112 108 true F.R12_SameAlloc [(.t 109),(.t 111)],pA 113 108 112,mT 114 113,gM 115 114 true 9,gB 116 114 true .eql (.t 115) (cI 5),pA 117 114 116,mT 118 117,
 gM 119 118 true 11,gB 120 118 true .eql (.t 119) (cI 4),pA 121 118 120,mT 0 121]
 [(10,11),(10,12)])
 .ret)))))))))) }
def C.live_opened : LFunc := { np := 1,res := [.tmp 2,.tmp 3],keep := false,body :=
 (.seq (.ops [bX 1 5 0,mC 2 .nilp,mC 3 (.int .i64 0)])
 (.seq (.ops [lT 10 5 1,cL 11 F.code_Depths [(.t 10)],mT 9 11,o 12 (.ext 0 (.t 9)),o 13 (.ext 1 (.t 9)),mT 4 12,mT 5 13])
 (.seq (.seq (.ops [mT 14 5,bN 15 .neq (.t 14) (cI 0)])
 (.cond (.t 15)
 (.seq (.ops [mT 16 5,mC 2 .nilp,mT 3 16])
 .ret)
 .skip))
 (.seq (.draw [lT 17 5 1,mT 18 4,fA 19 0 1,l1 20 19,lN 21 20,o 22 (.mklen 3 [(.cl []),(.cl []),(.cl [])] (.t 21) (.t 21)),
 o 23 (.build [(.cl []),(.cl []),(.cl []),(.int .i64 0),(.cl []),(.cl []),(.cl [])] [(0,5,(.t 17)),(5,1,(.t 18)),(6,1,(.t 22))]),bX 24 7 23,mT 6 24]
 [(0,5)])
 (.seq (.ops [cL 25 F.live_shapes [],mT 7 25])
 (.seq (.seq (.ops [fA 26 0 1,l1 27 26,lN 28 27,mC 29 (.int .i64 0)])
 (.block 0 (.loop (.seq (.ops [bN 30 .lss (.t 29) (.t 28)])
 (.seq (.cond (.t 30)
 .skip
 (.exit 0))
 (.seq (.block 1 (.seq (.ops [mT 31 29,mT 8 31])
 (.seq (.ops [mT 32 4,mT 33 8,iA 34 3 32 33,fA 35 0 34,l1 36 35])
 (.cond (.t 36)
 (.draw [mT 37 6,nK 38 37,fA 39 6 38,l1 40 39,mT 41 8,mT 42 6,mT 43 8,mT 44 7,o 45 (.icall (.f F.live_program_stepOf) [(.t 42),(.t 43),(.t 44)]),iA 46 3 40 41,
 sT 3 46 45]
 [(3,8)])
 .skip))))
 (.ops [bN 47 .add (.t 29) (cI 1),mT 29 47])))))))
 (.seq (.ops [mT 48 6,mT 2 48,mC 3 (.int .i64 0)])
 .ret))))))) }
def C.live_program_starts : LFunc := { np := 1,res := [.tmp 2],keep := true,body :=
 (.seq (.ops [bX 1 1 0,mC 2 (.cl [])])
 (.seq (.ops [l1 8 1,nK 9 8,fA 10 0 9,fA 11 0 10,l1 12 11,lN 13 12,o 14 (.mklen 1 [(.bool false)] (.t 13) (.t 13)),o 3 (.alloc [(.cl [])]),sT 1 3 14])
 (.seq (.seq (.ops [l1 15 1,nK 16 15,fA 17 0 16,fA 18 2 17,l1 19 18,lN 20 19,mC 21 (.int .i64 0)])
 (.block 0 (.loop (.seq (.ops [bN 22 .lss (.t 21) (.t 20)])
 (.seq (.cond (.t 22)
 .skip
 (.exit 0))
 (.seq (.block 1 (.seq (.ops [iA 23 1 19 21,l1 24 23,mT 5 24])
 (.draw [l1 25 3,mT 26 5,l1 27 1,nK 28 27,fA 29 5 28,l1 30 29,mT 31 5,iA 32 3 30 31,fA 33 0 32,l1 34 33,iA 35 1 25 26,sT 1 35 34]
 [])))
 (.ops [bN 36 .add (.t 21) (cI 1),mT 21 36])))))))
 (.seq (.seq (.ops [l1 37 1,cL 38 F.live_program_reached [(.t 37)]])
 (.block 2 (.rangeF (.t 38) [39]
 (.ops [mT 6 39])
 (.block 3 (.seq (.ops [l1 40 1,nK 41 40,fA 42 0 41,fA 43 0 42,l1 44 43,mT 45 6,iA 46 3 44 45,lT 47 3 46,o 7 (.alloc [(.int .i64 0),(.int .i64 0),(.int .i64 0)]),
 sT 3 7 47])
 (.seq (.ops [fA 48 0 7,l1 49 48])
 (.block 4 (.seq (.seq (.ops [bN 51 .eql (.t 49) (cI 6),mT 50 51])
 (.cond (.t 50)
 .skip
 (.seq (.ops [bN 52 .eql (.t 49) (cI 31),mT 50 52])
 (.cond (.t 50)
 .skip
 (.ops [bN 53 .eql (.t 49) (cI 32),mT 50 53])))))
 (.cond (.t 50)
 (.ops [l1 54 3,fA 55 1 7,l1 56 55,iA 57 1 54 56,on (.store 1 (.t 57) (cB true))])
 .skip)))))))))
 (.seq (.ops [l1 58 3,mT 2 58])
 .ret))))) }
def C.W12_ins : LFunc := { np := 2,res := [.cell 4 true 3],keep := false,body :=
 (.seq (.ops [o 4 (.alloc [(.int .i64 0),(.int .i64 0),(.int .i64 0)])])
 (.seq (.ops [mT 5 0,mT 6 1,o 7 (.build [(.int .i64 0),(.int .i64 0),(.int .i64 0)] [(0,1,(.t 5)),(1,1,(.t 6))]),sT 3 4 7])
 .ret)) }
def C.live_program_reached : LFunc := { np := 1,res := [.tmp 2],keep := false,body :=
 (.seq (.ops [bX 1 1 0,mC 2 .nilf])
 (.seq (.ops [o 3 (.mkfn F.live_program_reached_c1 [] [(.t 1)]),mT 2 3])
 .ret)) }
def C.live_branches : LFunc := { np := 1,res := [.tmp 2],keep := false,body :=
 (.seq (.ops [mC 2 (.bool false)])
 (.seq (.ops [mT 3 0,bN 4 .eql (.t 3) (cI 11),mT 5 4,gM 6 5 false 0,gB 7 5 false .eql (.t 6) (cI 12),pO 8 5 7,mT 9 8,gM 10 9 false 0,gB 11 9 false .eql (.t 10) (cI 19),
 pO 12 9 11,mT 2 12])
 .ret)) }
def C.live_Blocks_c1 : LFunc := { np := 4,res := [],keep := false,body :=
 (.seq (.ops [mT 9 0,mT 10 0,bN 11 .add (.t 10) (cI 1),o 12 (.build [(.int .i64 0),(.int .i64 0),(.cl [])] [(0,1,(.t 9)),(1,1,(.t 11))]),
 o 5 (.alloc [(.int .i64 0),(.int .i64 0),(.cl [])]),sT 3 5 12])
 (.seq (.seq (.ops [mT 13 0,mT 6 13])
 (.block 0 (.loop (.seq (.seq (.ops [l1 14 1,nK 15 14,fA 16 0 15,fA 17 0 16,l1 18 17,mT 19 6,iA 20 3 18 19,fA 21 0 20,l1 22 21,cL 23 F.live_branches [(.t 22)],nT 24 23,
 mT 25 24,g1 26 25 true 1,og 27 25 true (.nilck (.t 26)),gF 28 25 true 6 27,g1 29 25 true 28,gM 30 25 true 6,og 31 25 true (.ia 3 (.t 29) (.t 30)),gF 32 25 true 2 31,
 g1 33 25 true 32,gN 34 25 true 33,gB 35 25 true .gtr (.t 34) (cI 0),pA 36 25 35,mT 37 36,g1 38 37 true 2,gF 39 37 true 1 5,g1 40 37 true 39,
 og 41 37 true (.ia 1 (.t 38) (.t 40)),g1 42 37 true 41,og 43 37 true (.un .not (.t 42)),pA 44 37 43])
 (.cond (.t 44)
 .skip
 (.exit 0)))
 (.seq (.block 1 (.ops [fA 47 1 5,l1 48 47,bN 49 .add (.t 48) (cI 1),fA 50 1 5,sT 1 50 49]))
 (.ops [mT 45 6,bN 46 .add (.t 45) (cI 1),mT 6 46]))))))
 (.seq (.seq (.draw [l1 51 1,nK 52 51,fA 53 6 52,l1 54 53,fA 55 1 5,l1 56 55,bN 57 .sub (.t 56) (cI 1),iA 58 3 54 57,fA 59 2 58,l1 60 59,lN 61 60,mC 62 (.int .i64 0)]
 [])
 (.block 2 (.loop (.seq (.ops [bN 63 .lss (.t 62) (.t 61)])
 (.seq (.cond (.t 63)
 .skip
 (.exit 2))
 (.seq (.block 3 (.seq (.ops [iA 64 2 60 62,lT 65 2 64,o 8 (.alloc [(.int .i64 0),(.cl [])]),sT 2 8 65])
 (.ops [fA 66 2 5,l1 67 66,fA 68 0 8,l1 69 68,o 70 (.bslice 1 1 [(.int .i64 0)] [(0,(.t 69))]),o 71 (.append 1 (.t 67) (.t 70)),fA 72 2 5,sT 1 72 71])))
 (.ops [bN 73 .add (.t 62) (cI 1),mT 62 73])))))))
 (.seq (.ops [fA 74 2 5,l1 75 74,cL 76 F.slices_Sort_s_int_int [(.t 75)]])
 (.seq (.ops [fA 77 2 5,l1 78 77,cL 79 F.slices_Compact_s_int_int [(.t 78)],fA 80 2 5,sT 1 80 79])
 (.ops [l1 81 3,lT 82 3 5,o 83 (.bslice 1 3 [(.int .i64 0),(.int .i64 0),(.cl [])] [(0,(.t 82))]),o 84 (.append 3 (.t 81) (.t 83)),sT 1 3 84])))))) }
def C.slices_Sort_s_int_int : LFunc := { np := 1,res := [],keep := false,body :=
 (.seq (.ops [mT 3 0,lN 4 3,mT 2 4])
 (.ops [mT 5 0,mT 6 2,mT 7 2,o 8 (.wrap .u64 (.t 7)),cL 9 F.math_bits_Len [(.t 8)],cL 10 F.slices_pdqsortOrdered_int [(.t 5),(cI 0),(.t 6),(.t 9)]])) }
def C.slices_Compact_s_int_int : LFunc := { np := 1,res := [.tmp 2],keep := false,body :=
 (.seq (.ops [mC 2 (.cl [])])
 (.seq (.seq (.ops [mT 6 0,lN 7 6,bN 8 .lss (.t 7) (cI 2)])
 (.cond (.t 8)
 (.seq (.ops [mT 9 0,mT 2 9])
 .ret)
 .skip))
 (.seq (.seq (.ops [mC 3 (.int .i64 1)])
 (.block 0 (.loop (.seq (.seq (.ops [mT 10 3,mT 11 0,lN 12 11,bN 13 .lss (.t 10) (.t 12)])
 (.cond (.t 13)
 .skip
 (.exit 0)))
 (.seq (.block 1 (.seq (.draw [mT 16 0,mT 17 3,iA 18 1 16 17,l1 19 18,mT 20 0,mT 21 3,bN 22 .sub (.t 21) (cI 1),iA 23 1 20 22,l1 24 23,bN 25 .eql (.t 19) (.t 24)]
 [])
 (.cond (.t 25)
 (.seq (.ops [mT 26 0,mT 27 3,o 28 (.slice false 1 (.t 26) (some (.t 27)) none none),mT 4 28])
 (.seq (.seq (.ops [mC 5 (.int .i64 1)])
 (.block 2 (.loop (.seq (.seq (.ops [mT 29 5,mT 30 4,lN 31 30,bN 32 .lss (.t 29) (.t 31)])
 (.cond (.t 32)
 .skip
 (.exit 2)))
 (.seq (.block 3 (.seq (.draw [mT 35 4,mT 36 5,iA 37 1 35 36,l1 38 37,mT 39 4,mT 40 5,bN 41 .sub (.t 40) (cI 1),iA 42 1 39 41,l1 43 42,bN 44 .neq (.t 38) (.t 43)]
 [])
 (.cond (.t 44)
 (.seq (.ops [mT 45 0,mT 46 3,mT 47 4,mT 48 5,iA 49 1 47 48,l1 50 49,iA 51 1 45 46,sT 1 51 50])
 (.ops [mT 52 3,bN 53 .add (.t 52) (cI 1),mT 3 53]))
 .skip)))
 (.ops [mT 33 5,bN 34 .add (.t 33) (cI 1),mT 5 34]))))))
 (.seq (.ops [mT 54 0,mT 55 3,o 56 (.slice false 1 (.t 54) (some (.t 55)) none none),on (.clr (.int .i64 0) (.t 56))])
 (.seq (.ops [mT 57 0,mT 58 3,o 59 (.slice false 1 (.t 57) none (some (.t 58)) none),mT 2 59])
 .ret))))
 .skip)))
 (.ops [mT 14 3,bN 15 .add (.t 14) (cI 1),mT 3 15]))))))
 (.seq (.ops [mT 60 0,mT 2 60])
 .ret)))) }
def C.live_named : LFunc := { np := 1,res := [.tmp 2],keep := false,body :=
 (.seq (.ops [mC 2 (.cl [])])
 (.seq (.ops [mC 3 (.cl [])])
 (.seq (.seq (.ops [mT 6 0,lN 7 6,mC 8 (.int .i64 0)])
 (.block 0 (.loop (.seq (.ops [bN 9 .lss (.t 8) (.t 7)])
 (.seq (.cond (.t 9)
 .skip
 (.exit 0))
 (.seq (.block 1 (.seq (.ops [iA 10 1 6 8,l1 11 10,mT 5 11])
 (.ops [mT 12 3,mT 13 5,cL 14 F.live_variable [(.t 13)],o 15 (.bslice 1 2 [(.bool false),(.int .i64 0)] [(0,(.t 14))]),o 16 (.append 2 (.t 12) (.t 15)),mT 3 16])))
 (.ops [bN 17 .add (.t 8) (cI 1),mT 8 17])))))))
 (.seq (.ops [mT 18 3,mT 2 18])
 .ret)))) }
def C.live_program_live : LFunc := { np := 1,res := [.tmp 2],keep := false,body :=
 (.seq (.ops [mC 2 (.cl [])])
 (.seq (.ops [mT 9 0,nK 10 9,fA 11 0 10,fA 12 0 11,l1 13 12,lN 14 13,o 15 (.mklen 2 [(.int .u64 0),(.int .u64 0)] (.t 14) (.t 14)),mT 3 15])
 (.seq (.seq (.ops [mC 4 (.bool true)])
 (.block 0 (.loop (.seq (.seq (.ops [mT 16 4])
 (.cond (.t 16)
 .skip
 (.exit 0)))
 (.block 1 (.seq (.ops [mC 4 (.bool false)])
 (.seq (.ops [mT 17 0,nK 18 17,fA 19 0 18,fA 20 0 19,l1 21 20,lN 22 21,bN 23 .sub (.t 22) (cI 1),mT 5 23])
 (.block 2 (.loop (.seq (.seq (.ops [mT 24 5,bN 25 .geq (.t 24) (cI 0)])
 (.cond (.t 25)
 .skip
 (.exit 2)))
 (.seq (.block 3 (.seq (.ops [mT 28 0,nK 29 28,fA 30 6 29,l1 31 30,mT 32 5,iA 33 3 31 32,fA 34 0 33,l1 35 34,cL 36 F.live_bag [(.t 35)],
 o 6 (.alloc [(.int .u64 0),(.int .u64 0)]),sT 2 6 36])
 (.seq (.seq (.ops [mT 37 0,nK 38 37,fA 39 6 38,l1 40 39,mT 41 5,iA 42 3 40 41,fA 43 2 42,l1 44 43,lN 45 44,mC 46 (.int .i64 0)])
 (.block 4 (.loop (.seq (.ops [bN 47 .lss (.t 46) (.t 45)])
 (.seq (.cond (.t 47)
 .skip
 (.exit 4))
 (.seq (.block 5 (.seq (.ops [iA 48 2 44 46,lT 49 2 48,o 8 (.alloc [(.int .i64 0),(.cl [])]),sT 2 8 49])
 (.draw [lT 50 2 6,mT 51 3,fA 52 0 8,l1 53 52,iA 54 2 51 53,lT 55 2 54,fA 56 1 8,l1 57 56,cL 58 F.live_bag [(.t 57)],cL 59 F.live_set_less [(.t 55),(.t 58)],
 cL 60 F.live_set_and [(.t 50),(.t 59)],sT 2 6 60]
 [(0,8),(3,8),(4,8),(5,8),(0,9)])))
 (.ops [bN 61 .add (.t 46) (cI 1),mT 46 61])))))))
 (.seq (.draw [lT 62 2 6,mT 63 3,mT 64 5,iA 65 2 63 64,lT 66 2 65,o 67 (.bin .neq (.agg [.num,.num]) (.t 62) (.t 66))]
 [])
 (.cond (.t 67)
 (.seq (.ops [mT 68 3,mT 69 5,lT 70 2 6,iA 71 2 68 69,sT 2 71 70])
 (.ops [mC 4 (.bool true)]))
 .skip)))))
 (.ops [mT 26 5,bN 27 .sub (.t 26) (cI 1),mT 5 27]))))))))))))
 (.seq (.ops [mT 72 3,mT 2 72])
 .ret)))) }
def C.live_set_list : LFunc := { np := 1,res := [.tmp 2],keep := false,body :=
 (.seq (.ops [bX 1 2 0,mC 2 (.cl [])])
 (.seq (.ops [mC 3 (.cl [])])
 (.seq (.seq (.ops [lT 6 2 1,mC 7 (.int .i64 0)])
 (.block 0 (.loop (.seq (.ops [bN 8 .lss (.t 7) (cI 2)])
 (.seq (.cond (.t 8)
 .skip
 (.exit 0))
 (.seq (.block 1 (.seq (.ops [mT 9 7,o 10 (.ixa false 2 1 (.t 6) (.t 7)),mT 4 9,mT 5 10])
 (.block 2 (.loop (.seq (.seq (.ops [mT 11 5,bN 12 .neq (.t 11) (.c (.int .u64 0))])
 (.cond (.t 12)
 .skip
 (.exit 2)))
 (.seq (.block 3 (.ops [mT 17 3,mT 18 4,bN 19 .mul (cI 64) (.t 18),mT 20 5,cL 21 F.math_bits_TrailingZeros64 [(.t 20)],bN 22 .add (.t 19) (.t 21),
 o 23 (.bslice 1 1 [(.int .i64 0)] [(0,(.t 22))]),o 24 (.append 1 (.t 17) (.t 23)),mT 3 24]))
 (.ops [mT 13 5,mT 14 5,bN 15 .sub (.t 14) (.c (.int .u64 1)),bN 16 .and (.t 13) (.t 15),mT 5 16])))))))
 (.ops [bN 25 .add (.t 7) (cI 1),mT 7 25])))))))
 (.seq (.ops [mT 26 3,mT 2 26])
 .ret)))) }
def C.live_segmented : LFunc := { np := 2,res := [.tmp 4,.tmp 5],keep := false,body :=
 (.seq (.ops [bX 2 5 0,mC 4 .nilp,mC 5 (.int .i64 0)])
 (.seq (.ops [lT 14 5 2,cL 15 F.live_opened [(.t 14)],mT 13 15,o 16 (.ext 0 (.t 13)),o 17 (.ext 1 (.t 13)),mT 6 16,mT 7 17])
 (.seq (.seq (.ops [mT 18 7,bN 19 .neq (.t 18) (cI 0)])
 (.cond (.t 19)
 (.seq (.ops [mT 20 7,mC 4 .nilp,mT 5 20])
 .ret)
 .skip))
 (.seq (.seq (.ops [mT 21 1,bN 22 .lss (.t 21) (cI 0),mT 23 22,gM 24 23 false 1,gF 25 23 false 0 2,g1 26 23 false 25,gN 27 23 false 26,
 gB 28 23 false .geq (.t 24) (.t 27),pO 29 23 28,mT 30 29,gM 31 30 false 6,gL 32 30 false F.live_program_starts [(.t 31)],gM 33 30 false 1,
 og 34 30 false (.ia 1 (.t 32) (.t 33)),g1 35 30 false 34,og 36 30 false (.un .not (.t 35)),pO 37 30 36])
 (.cond (.t 37)
 (.seq (.ops [mC 4 .nilp,mC 5 (.int .i64 5)])
 .ret)
 .skip))
 (.seq (.ops [mT 38 6,mT 39 1,fA 40 0 2,l1 41 40,lN 42 41,o 43 (.mklen 1 [(.bool false)] (.t 42) (.t 42)),
 o 44 (.build [.nilp,(.int .i64 0),(.cl [])] [(0,1,(.t 38)),(1,1,(.t 39)),(2,1,(.t 43))]),bX 45 3 44,mT 8 45])
 (.seq (.ops [mT 46 1,o 47 (.bsliceO 1 1 [(.int .i64 0)] [(0,(.t 46))]),mT 9 47])
 (.seq (.ops [mT 48 8,nK 49 48,fA 50 2 49,l1 51 50,mT 52 1,iA 53 1 51 52,on (.store 1 (.t 53) (cB true))])
 (.seq (.block 0 (.loop (.seq (.seq (.ops [mT 54 9,lN 55 54,bN 56 .gtr (.t 55) (cI 0)])
 (.cond (.t 56)
 .skip
 (.exit 0)))
 (.block 1 (.seq (.ops [mT 57 9,mT 58 9,lN 59 58,bN 60 .sub (.t 59) (cI 1),iA 61 1 57 60,l1 62 61,mT 10 62])
 (.seq (.ops [mT 63 9,mT 64 9,lN 65 64,bN 66 .sub (.t 65) (cI 1),o 67 (.slice false 1 (.t 63) none (some (.t 66)) none),mT 9 67])
 (.seq (.ops [mT 68 6,nK 69 68,fA 70 6 69,l1 71 70,mT 72 10,iA 73 3 71 72,fA 74 2 73,l1 75 74,lN 76 75,mC 77 (.int .i64 0)])
 (.block 2 (.loop (.seq (.ops [bN 78 .lss (.t 77) (.t 76)])
 (.seq (.cond (.t 78)
 .skip
 (.exit 2))
 (.seq (.block 3 (.seq (.ops [iA 79 2 75 77,lT 80 2 79,o 12 (.alloc [(.int .i64 0),(.cl [])]),sT 2 12 80])
 (.seq (.draw [mT 81 8,nK 82 81,fA 83 2 82,l1 84 83,fA 85 0 12,l1 86 85,iA 87 1 84 86,l1 88 87,nT 89 88]
 [])
 (.cond (.t 89)
 (.seq (.draw [mT 90 8,nK 91 90,fA 92 2 91,l1 93 92,fA 94 0 12,l1 95 94,iA 96 1 93 95,on (.store 1 (.t 96) (cB true))]
 [])
 (.ops [mT 97 9,fA 98 0 12,l1 99 98,o 100 (.bsliceO 1 1 [(.int .i64 0)] [(0,(.t 99))]),o 101 (.append 1 (.t 97) (.t 100)),mT 9 101]))
 .skip))))
 (.ops [bN 102 .add (.t 77) (cI 1),mT 77 102])))))))))))))
 (.seq (.ops [mT 103 8,mT 4 103,mC 5 (.int .i64 0)])
 .ret))))))))) }
def C.live_segment_placed : LFunc := { np := 2,res := [.cell 4 true 90,.tmp 5],keep := false,body :=
 (.seq (.ops [bX 3 2 1,o 4 (.alloc (List.replicate 90 (.int .i64 0))),mC 5 (.bool false)])
 (.seq (.ops [o 6 (.alloc (List.replicate 90 (.int .i64 0)))])
 (.seq (.ops [mT 10 0,cL 11 F.live_segment_written [(.t 10)],cL 12 F.live_set_list [(.t 11)],mT 7 12])
 (.seq (.seq (.draw [fA 13 0 3,l1 14 13,mT 15 7,cL 16 F.live_named [(.t 15)],cL 17 F.slices_Equal_s_api_LiveVar_api_LiveVar [(.t 14),(.t 16)],nT 18 17,mT 19 18,
 gF 20 19 false 1 3,g1 21 19 false 20,gN 22 19 false 21,gM 23 19 false 7,gN 24 19 false 23,gB 25 19 false .neq (.t 22) (.t 24),pO 26 19 25]
 [(1,3)])
 (.cond (.t 26)
 (.seq (.ops [lT 27 90 6,sT 90 4 27,mC 5 (.bool false)])
 .ret)
 .skip))
 (.seq (.seq (.ops [fA 28 1 3,l1 29 28,lN 30 29,mC 31 (.int .i64 0)])
 (.block 0 (.loop (.seq (.ops [bN 32 .lss (.t 31) (.t 30)])
 (.seq (.cond (.t 32)
 .skip
 (.exit 0))
 (.seq (.block 1 (.seq (.ops [mT 33 31,iA 34 1 29 31,l1 35 34,mT 8 33,mT 9 35])
 (.seq (.seq (.ops [mT 36 9,bN 37 .lss (.t 36) (cI 0),mT 38 37,gM 39 38 false 9,gB 40 38 false .geq (.t 39) (cI 90),pO 41 38 40])
 (.cond (.t 41)
 (.seq (.ops [lT 42 90 6,sT 90 4 42,mC 5 (.bool false)])
 .ret)
 .skip))
 (.ops [mT 43 7,mT 44 8,iA 45 1 43 44,l1 46 45,mT 47 9,o 48 (.iaa 90 1 (.t 6) (.t 46)),sT 1 48 47]))))
 (.ops [bN 49 .add (.t 31) (cI 1),mT 31 49])))))))
 (.seq (.ops [lT 50 90 6,sT 90 4 50,mC 5 (.bool true)])
 .ret)))))) }
def C.live_segment_wrong : LFunc := { np := 2,res := [.tmp 4,.tmp 5],keep := false,body :=
 (.seq (.ops [bX 3 90 1,mC 4 (.int .i64 0),mC 5 (.bool false)])
 (.seq (.ops [mT 18 0,nK 19 18,fA 20 0 19,l1 21 20,nK 22 21,fA 23 0 22,fA 24 0 23,l1 25 24,lN 26 25,
 o 27 (.mklen 180 (List.replicate 180 (.int .u64 0)) (.t 26) (.t 26)),mT 6 27])
 (.seq (.ops [mT 28 0,nK 29 28,fA 30 0 29,l1 31 30,nK 32 31,fA 33 0 32,fA 34 0 33,l1 35 34,lN 36 35,o 37 (.mklen 1 [(.bool false)] (.t 36) (.t 36)),mT 7 37])
 (.seq (.ops [o 38 (.mkfn F.live_segment_wrong_c1 [] [(.t 3)]),mT 8 38])
 (.seq (.draw [mT 39 8,o 40 (.build (List.replicate 180 (.int .u64 0)) []),mT 41 0,nK 42 41,fA 43 1 42,l1 44 43,mT 45 0,cL 46 F.live_segment_begins [(.t 45)],
 o 47 (.build [(.int .i64 0),(.cl [])] [(0,1,(.t 44)),(1,1,(.t 46))]),o 48 (.call (.t 39) [(.t 40),(.t 47)]),
 o 49 (.bsliceO 1 181 ([(.int .i64 0)] ++ List.replicate 180 (.int .u64 0)) [(0,(.t 48))]),mT 9 49]
 [(5,7)])
 (.seq (.block 0 (.loop (.seq (.seq (.ops [mT 50 9,lN 51 50,bN 52 .gtr (.t 51) (cI 0)])
 (.cond (.t 52)
 .skip
 (.exit 0)))
 (.block 1 (.seq (.ops [mT 53 9,mT 54 9,lN 55 54,bN 56 .sub (.t 55) (cI 1),iA 57 181 53 56,lT 58 181 57,
 o 10 (.alloc ([(.int .i64 0)] ++ List.replicate 180 (.int .u64 0))),sT 181 10 58])
 (.seq (.ops [mT 59 9,mT 60 9,lN 61 60,bN 62 .sub (.t 61) (cI 1),o 63 (.slice false 181 (.t 59) none (some (.t 62)) none),mT 9 63])
 (.seq (.ops [mT 64 6,fA 65 0 10,l1 66 65,iA 67 180 64 66,lT 68 180 67,o 11 (.alloc (List.replicate 180 (.int .u64 0))),sT 180 11 68])
 (.seq (.seq (.ops [mC 69 (.int .i64 0)])
 (.block 2 (.loop (.seq (.ops [bN 70 .lss (.t 69) (cI 90)])
 (.seq (.cond (.t 70)
 .skip
 (.exit 2))
 (.seq (.block 3 (.seq (.ops [mT 71 69,mT 12 71])
 (.draw [mT 72 12,mT 73 12,o 74 (.iaa 90 2 (.t 11) (.t 73)),lT 75 2 74,mT 76 12,fA 77 1 10,o 78 (.iaa 90 2 (.t 77) (.t 76)),lT 79 2 78,
 cL 80 F.live_set_and [(.t 75),(.t 79)],o 81 (.iaa 90 2 (.t 11) (.t 72)),sT 2 81 80]
 [])))
 (.ops [bN 82 .add (.t 69) (cI 1),mT 69 82])))))))
 (.seq (.seq (.draw [mT 83 7,fA 84 0 10,l1 85 84,iA 86 1 83 85,l1 87 86,mT 88 87,gT 89 88 true 180 11,gM 90 88 true 6,gF 91 88 true 0 10,g1 92 88 true 91,
 og 93 88 true (.ia 180 (.t 90) (.t 92)),gT 94 88 true 180 93,
 og 95 88 true (.bin .eql (.agg [.num,.num,.num,.num,.num,.num,.num,.num,.num,.num,.num,.num,.num,.num,.num,.num,.num,.num,.num,.num,.num,.num,.num,.num,.num,.num,.num,.num,.num,.num,.num,.num,.num,.num,.num,.num,.num,.num,.num,.num,.num,.num,.num,.num,.num,.num,.num,.num,.num,.num,.num,.num,.num,.num,.num,.num,.num,.num,.num,.num,.num,.num,.num,.num,.num,.num,.num,.num,.num,.num,.num,.num,.num,.num,.num,.num,.num,.num,.num,.num,.num,.num,.num,.num,.num,.num,.num,.num,.num,.num,.num,.num,.num,.num,.num,.num,.num,.num,.num,.num,.num,.num,.num,.num,.num,.num,.num,.num,.num,.num,.num,.num,.num,.num,.num,.num,.num,.num,.num,.num,.num,.num,.num,.num,.num,.num,.num,.num,.num,.num,.num,.num,.num,.num,.num,.num,.num,.num,.num,.num,.num,.num,.num,.num,.num,.num,.num,.num,.num,.num,.num,.num,.num,.num,.num,.num,.num,.num,.num,.num,.num,.num,.num,.num,.num,.num,.num,.num,.num,.num,.num,.num,.num,.num,.num,.num,.num,.num,.num,.num]) (.t 89) (.t 94)),
 pA 96 88 95]
 [])
 (.cond (.t 96)
 (.exit 1)
 .skip))
 (.seq (.ops [mT 97 7,fA 98 0 10,l1 99 98,iA 100 1 97 99,on (.store 1 (.t 100) (cB true))])
 (.seq (.ops [mT 101 6,fA 102 0 10,l1 103 102,lT 104 180 11,iA 105 180 101 103,sT 180 105 104])
 (.seq (.draw [mT 106 0,nK 107 106,fA 108 0 107,l1 109 108,nK 110 109,fA 111 6 110,l1 112 111,fA 113 0 10,l1 114 113,iA 115 3 112 114,fA 116 2 115,l1 117 116,
 lN 118 117,mC 119 (.int .i64 0)]
 [])
 (.block 4 (.loop (.seq (.ops [bN 120 .lss (.t 119) (.t 118)])
 (.seq (.cond (.t 120)
 .skip
 (.exit 4))
 (.seq (.block 5 (.seq (.ops [iA 121 2 117 119,lT 122 2 121,o 14 (.alloc [(.int .i64 0),(.cl [])]),sT 2 14 122])
 (.ops [mT 123 9,mT 124 8,lT 125 180 11,lT 126 2 14,o 127 (.call (.t 124) [(.t 125),(.t 126)]),
 o 128 (.bsliceO 1 181 ([(.int .i64 0)] ++ List.replicate 180 (.int .u64 0)) [(0,(.t 127))]),o 129 (.append 181 (.t 123) (.t 128)),mT 9 129])))
 (.ops [bN 130 .add (.t 119) (cI 1),mT 119 130]))))))))))))))))))
 (.seq .skip
 (.seq (.seq (.ops [mT 131 0,nK 132 131,fA 133 0 132,l1 134 133,nK 135 134,fA 136 0 135,fA 137 0 136,l1 138 137,lN 139 138,mC 140 (.int .i64 0)])
 (.block 6 (.loop (.seq (.ops [bN 141 .lss (.t 140) (.t 139)])
 (.seq (.cond (.t 141)
 .skip
 (.exit 6))
 (.seq (.block 7 (.seq (.ops [mT 142 140,mT 15 142])
 (.seq (.seq (.ops [mT 143 0,nK 144 143,fA 145 2 144,l1 146 145,mT 147 15,iA 148 1 146 147,l1 149 148,nT 150 149])
 (.cond (.t 150)
 (.exit 7)
 .skip))
 (.seq (.ops [mT 151 0,nK 152 151,fA 153 0 152,l1 154 153,nK 155 154,fA 156 6 155,l1 157 156,mT 158 15,iA 159 3 157 158,fA 160 0 159,l1 161 160,lN 162 161,
 mC 163 (.int .i64 0)])
 (.block 8 (.loop (.seq (.ops [bN 164 .lss (.t 163) (.t 162)])
 (.seq (.cond (.t 164)
 .skip
 (.exit 8))
 (.seq (.block 9 (.seq (.ops [iA 165 1 161 163,l1 166 165,mT 17 166])
 (.seq (.draw [mT 167 6,mT 168 15,mT 169 17,o 170 (.iaa 90 1 (.t 3) (.t 169)),l1 171 170,iA 172 180 167 168,o 173 (.iaa 90 2 (.t 172) (.t 171)),lT 174 2 173,
 o 175 (.build [(.int .u64 0),(.int .u64 0)] []),mT 176 17,cL 177 F.live_set_with [(.t 175),(.t 176)],o 178 (.bin .neq (.agg [.num,.num]) (.t 174) (.t 177))]
 [(4,10),(5,10),(7,10)])
 (.cond (.t 178)
 (.seq (.ops [mT 179 15,mT 4 179,mC 5 (.bool true)])
 .ret)
 .skip))))
 (.ops [bN 180 .add (.t 163) (cI 1),mT 163 180]))))))))))
 (.ops [bN 181 .add (.t 140) (cI 1),mT 140 181])))))))
 (.seq (.ops [mC 4 (.int .i64 0),mC 5 (.bool false)])
 .ret))))))))) }
def C.slices_Concat_s_int_int : LFunc := { np := 1,res := [.tmp 2],keep := false,body :=
 (.seq (.ops [mC 2 (.cl [])])
 (.seq (.ops [mC 3 (.int .i64 0)])
 (.seq (.seq (.ops [mT 9 0,lN 10 9,mC 11 (.int .i64 0)])
 (.block 0 (.loop (.seq (.ops [bN 12 .lss (.t 11) (.t 10)])
 (.seq (.cond (.t 12)
 .skip
 (.exit 0))
 (.seq (.block 1 (.seq (.ops [iA 13 1 9 11,l1 14 13,mT 5 14])
 (.seq (.ops [mT 15 3,mT 16 5,lN 17 16,bN 18 .add (.t 15) (.t 17),mT 3 18])
 (.seq (.ops [mT 19 3,bN 20 .lss (.t 19) (cI 0)])
 (.cond (.t 20)
 (.opsP [o 21 (.iface 9 (.c (.str ⟨#[108,101,110,32,111,117,116,32,111,102,32,114,97,110,103,101]⟩))),on (.panic (.t 21))])
 .skip)))))
 (.ops [bN 22 .add (.t 11) (cI 1),mT 11 22])))))))
 (.seq (.ops [mT 23 3,o 24 (.icall (.f F.slices_Grow_s_int_int) [(.c (.cl [])),(.t 23)]),mT 6 24])
 (.seq (.seq (.ops [mT 25 0,lN 26 25,mC 27 (.int .i64 0)])
 (.block 2 (.loop (.seq (.ops [bN 28 .lss (.t 27) (.t 26)])
 (.seq (.cond (.t 28)
 .skip
 (.exit 2))
 (.seq (.block 3 (.seq (.ops [iA 29 1 25 27,l1 30 29,mT 8 30])
 (.ops [mT 31 6,mT 32 8,o 33 (.append 1 (.t 31) (.t 32)),mT 6 33])))
 (.ops [bN 34 .add (.t 27) (cI 1),mT 27 34])))))))
 (.seq (.ops [mT 35 6,mT 2 35])
 .ret)))))) }
def C.live_segment_written : LFunc := { np := 1,res := [.cell 2 true 2],keep := false,body :=
 (.seq (.ops [o 2 (.alloc [(.int .u64 0),(.int .u64 0)])])
 (.seq (.ops [mT 6 0,cL 7 F.live_segment_begins [(.t 6)],cL 8 F.live_bag [(.t 7)],o 3 (.alloc [(.int .u64 0),(.int .u64 0)]),sT 2 3 8])
 (.seq (.seq (.ops [mT 9 0,nK 10 9,fA 11 2 10,l1 12 11,lN 13 12,mC 14 (.int .i64 0)])
 (.block 0 (.loop (.seq (.ops [bN 15 .lss (.t 14) (.t 13)])
 (.seq (.cond (.t 15)
 .skip
 (.exit 0))
 (.seq (.block 1 (.seq (.ops [mT 16 14,iA 17 1 12 14,l1 18 17,mT 4 16,mT 5 18])
 (.seq (.ops [mT 19 5])
 (.cond (.t 19)
 (.draw [lT 20 2 3,mT 21 0,nK 22 21,fA 23 0 22,l1 24 23,nK 25 24,fA 26 6 25,l1 27 26,mT 28 4,iA 29 3 27 28,fA 30 1 29,l1 31 30,cL 32 F.live_bag [(.t 31)],
 cL 33 F.live_set_and [(.t 20),(.t 32)],sT 2 3 33]
 [(0,12)])
 .skip))))
 (.ops [bN 34 .add (.t 14) (cI 1),mT 14 34])))))))
 (.seq (.ops [lT 35 2 3,sT 2 2 35])
 .ret)))) }
def C.slices_Clone_s_int_int : LFunc := { np := 1,res := [.tmp 2],keep := true,amb := true,body :=
 (.seq (.ops [mC 2 (.cl [])])
 (.seq (.seq (.ops [mT 3 0,o 4 (.bin .eql .slice (.t 3) (.c (.es true)))])
 (.cond (.t 4)
 (.seq (.ops [mC 2 (.cl [])])
 .ret)
 .skip))
 (.seq (.ops [o 5 (.bslice 0 1 [(.int .i64 0)] []),mT 6 0,o 7 (.append 1 (.t 5) (.t 6)),mT 2 7])
 .ret))) }
def C.slices_SortStableFunc_s_int_int : LFunc := { np := 2,res := [],keep := false,body :=
 (.ops [mT 4 0,mT 5 0,lN 6 5,mT 7 1,o 8 (.icall (.f F.slices_stableCmpFunc_int) [(.t 4),(.t 6),(.t 7)])]) }
def C.live_Alloc_c1 : LFunc := { np := 3,res := [.tmp 5],keep := false,body :=
 (.seq (.ops [mC 5 (.int .i64 0)])
 (.seq (.draw [l1 6 2,mT 7 1,cL 8 F.live_segment_uses [(.t 6),(.t 7)],l1 9 2,mT 10 0,cL 11 F.live_segment_uses [(.t 9),(.t 10)],
 cL 12 F.cmp_Compare_int [(.t 8),(.t 11)],mT 5 12]
 [(2,3)])
 .ret)) }
def C.cmp_Compare_int : LFunc := { np := 2,res := [.tmp 4],keep := false,body :=
 (.seq (.ops [mC 4 (.int .i64 0)])
 (.seq (.ops [mT 7 0,cL 8 F.cmp_isNaN_int [(.t 7)],mT 5 8])
 (.seq (.ops [mT 9 1,cL 10 F.cmp_isNaN_int [(.t 9)],mT 6 10])
 (.seq (.seq (.ops [mT 11 5])
 (.cond (.t 11)
 (.seq (.seq (.ops [mT 12 6])
 (.cond (.t 12)
 (.seq (.ops [mC 4 (.int .i64 0)])
 .ret)
 .skip))
 (.seq (.ops [mC 4 (.int .i64 (-1))])
 .ret))
 .skip))
 (.seq (.seq (.ops [mT 13 6])
 (.cond (.t 13)
 (.seq (.ops [mC 4 (.int .i64 1)])
 .ret)
 .skip))
 (.seq (.seq (.ops [mT 14 0,mT 15 1,bN 16 .lss (.t 14) (.t 15)])
 (.cond (.t 16)
 (.seq (.ops [mC 4 (.int .i64 (-1))])
 .ret)
 .skip))
 (.seq (.seq (.ops [mT 17 0,mT 18 1,bN 19 .gtr (.t 17) (.t 18)])
 (.cond (.t 19)
 (.seq (.ops [mC 4 (.int .i64 1)])
 .ret)
 .skip))
 (.seq (.ops [mC 4 (.int .i64 0)])
 .ret)))))))) }
def C.live_segment_uses : LFunc := { np := 2,res := [.tmp 4],keep := false,body :=
 (.seq (.ops [mC 4 (.int .i64 0)])
 (.seq (.ops [mC 5 (.int .i64 0)])
 (.seq (.seq (.ops [mT 8 0,nK 9 8,fA 10 2 9,l1 11 10,lN 12 11,mC 13 (.int .i64 0)])
 (.block 0 (.loop (.seq (.ops [bN 14 .lss (.t 13) (.t 12)])
 (.seq (.cond (.t 14)
 .skip
 (.exit 0))
 (.seq (.block 1 (.seq (.ops [mT 15 13,iA 16 1 11 13,l1 17 16,mT 6 15,mT 7 17])
 (.seq (.ops [mT 18 7,mT 19 18,gM 20 19 true 0,og 21 19 true (.nilck (.t 20)),gF 22 19 true 0 21,g1 23 19 true 22,og 24 19 true (.nilck (.t 23)),gF 25 19 true 6 24,
 g1 26 19 true 25,gM 27 19 true 6,og 28 19 true (.ia 3 (.t 26) (.t 27)),gF 29 19 true 0 28,g1 30 19 true 29,gM 31 19 true 1,
 gL 32 19 true F.slices_Contains_s_int_int [(.t 30),(.t 31)],gM 33 19 true 32,gM 34 33 false 0,og 35 33 false (.nilck (.t 34)),gF 36 33 false 0 35,g1 37 33 false 36,
 og 38 33 false (.nilck (.t 37)),gF 39 33 false 6 38,g1 40 33 false 39,gM 41 33 false 6,og 42 33 false (.ia 3 (.t 40) (.t 41)),gF 43 33 false 1 42,g1 44 33 false 43,
 gM 45 33 false 1,gL 46 33 false F.slices_Contains_s_int_int [(.t 44),(.t 45)],og 47 19 true (.pick (.t 33) (cB true) (.t 46)),pA 48 19 47])
 (.cond (.t 48)
 (.ops [mT 49 5,bN 50 .add (.t 49) (cI 1),mT 5 50])
 .skip))))
 (.ops [bN 51 .add (.t 13) (cI 1),mT 13 51])))))))
 (.seq (.ops [mT 52 5,mT 4 52])
 .ret)))) }
def C.live_segment_clashes : LFunc := { np := 1,res := [.cell 2 true 180],keep := false,body :=
 (.seq (.ops [o 2 (.alloc (List.replicate 180 (.int .u64 0)))])
 (.seq (.ops [o 3 (.alloc (List.replicate 180 (.int .u64 0)))])
 (.seq (.ops [mT 11 0,nK 12 11,fA 13 0 12,l1 14 13,cL 15 F.live_program_live [(.t 14)],mT 4 15])
 (.seq (.seq (.ops [mT 16 0,cL 17 F.live_segment_edges [(.t 16)],lN 18 17,mC 19 (.int .i64 0)])
 (.block 0 (.loop (.seq (.ops [bN 20 .lss (.t 19) (.t 18)])
 (.seq (.cond (.t 20)
 .skip
 (.exit 0))
 (.seq (.block 1 (.seq (.ops [iA 21 2 17 19,lT 22 2 21,o 6 (.alloc [(.int .i64 0),(.cl [])]),sT 2 6 22])
 (.seq (.ops [fA 23 1 6,l1 24 23,lN 25 24,mC 26 (.int .i64 0)])
 (.block 2 (.loop (.seq (.ops [bN 27 .lss (.t 26) (.t 25)])
 (.seq (.cond (.t 27)
 .skip
 (.exit 2))
 (.seq (.block 3 (.seq (.ops [mT 28 26,iA 29 1 24 26,l1 30 29,mT 7 28,mT 8 30])
 (.seq (.ops [mT 31 4,fA 32 0 6,l1 33 32,iA 34 2 31 33,lT 35 2 34,cL 36 F.live_set_list [(.t 35)],lN 37 36,mC 38 (.int .i64 0)])
 (.block 4 (.loop (.seq (.ops [bN 39 .lss (.t 38) (.t 37)])
 (.seq (.cond (.t 39)
 .skip
 (.exit 4))
 (.seq (.block 5 (.seq (.ops [iA 40 1 36 38,l1 41 40,mT 10 41])
 (.seq (.ops [fA 42 1 6,l1 43 42,mT 44 7,o 45 (.slice false 1 (.t 43) (some (.t 44)) none none),mT 46 10,cL 47 F.slices_Contains_s_int_int [(.t 45),(.t 46)],nT 48 47])
 (.cond (.t 48)
 (.draw [mT 49 8,mT 50 10,mT 51 8,o 52 (.iaa 90 2 (.t 3) (.t 51)),lT 53 2 52,mT 54 10,cL 55 F.live_set_with [(.t 53),(.t 54)],mT 56 10,o 57 (.iaa 90 2 (.t 3) (.t 56)),
 lT 58 2 57,mT 59 8,cL 60 F.live_set_with [(.t 58),(.t 59)],o 61 (.iaa 90 2 (.t 3) (.t 49)),sT 2 61 55,o 62 (.iaa 90 2 (.t 3) (.t 50)),sT 2 62 60]
 [(6,9)])
 .skip))))
 (.ops [bN 63 .add (.t 38) (cI 1),mT 38 63])))))))))
 (.ops [bN 64 .add (.t 26) (cI 1),mT 26 64])))))))))
 (.ops [bN 65 .add (.t 19) (cI 1),mT 19 65])))))))
 (.seq (.ops [lT 66 180 3,sT 180 2 66])
 .ret))))) }
def C.live_Alloc_c2 : LFunc := { np := 6,res := [.tmp 7],keep := false,body :=
 (.seq (.ops [bX 6 1 0,mC 7 (.bool false)])
 (.seq (.ops [l1 8 1,l1 9 2,o 10 (.slice false 1 (.t 8) none (some (.t 9)) none),o 11 (.mkfn F.live_Alloc_c2_c1 [] [(.t 3),(.t 6),(.t 4),(.t 5)]),
 cL 12 F.slices_ContainsFunc_s_int_int [(.t 10),(.t 11)],nT 13 12,mT 7 13])
 .ret)) }
def C.slices_ContainsFunc_s_int_int : LFunc := { np := 2,res := [.tmp 4],keep := false,body :=
 (.seq (.ops [mC 4 (.bool false)])
 (.seq (.ops [mT 5 0,mT 6 1,o 7 (.icall (.f F.slices_IndexFunc_s_int_int) [(.t 5),(.t 6)]),bN 8 .geq (.t 7) (cI 0),mT 4 8])
 .ret)) }
def C.live_Alloc_c2_c1 : LFunc := { np := 5,res := [.tmp 6],keep := false,body :=
 (.seq (.ops [mC 6 (.bool false)])
 (.seq (.ops [l1 7 1,mT 8 0,o 9 (.mget .num (.int .i64 0) false (.t 7) (.t 8)),l1 10 2,bN 11 .eql (.t 9) (.t 10),mT 12 11,g1 13 12 true 4,
 og 14 12 true (.iaa 90 2 (.t 3) (.t 13)),gT 15 12 true 2 14,gM 16 12 true 0,gL 17 12 true F.live_set_has [(.t 15),(.t 16)],pA 18 12 17,mT 6 18])
 .ret)) }
def C.live_set_has : LFunc := { np := 2,res := [.tmp 4],keep := false,body :=
 (.seq (.ops [bX 2 2 0,mC 4 (.bool false)])
 (.seq (.ops [mT 5 1,bN 6 .quo (.t 5) (cI 64),o 7 (.iaa 2 1 (.t 2) (.t 6)),l1 8 7,mT 9 1,bN 10 .rem (.t 9) (cI 64),bN 11 .shr (.t 8) (.t 10),
 bN 12 .and (.t 11) (.c (.int .u64 1)),bN 13 .eql (.t 12) (.c (.int .u64 1)),mT 4 13])
 .ret)) }
def C.live_Clashes : LFunc := { np := 2,res := [.tmp 4,.tmp 5],keep := false,body :=
 (.seq (.ops [bX 2 5 0,mC 4 (.cl []),mC 5 (.int .i64 0)])
 (.seq (.ops [lT 14 5 2,mT 15 1,cL 16 F.live_segmented [(.t 14),(.t 15)],mT 13 16,o 17 (.ext 0 (.t 13)),o 18 (.ext 1 (.t 13)),mT 6 17,mT 7 18])
 (.seq (.seq (.ops [mT 19 7,bN 20 .neq (.t 19) (cI 0)])
 (.cond (.t 20)
 (.seq (.ops [mT 21 7,mC 4 (.cl []),mT 5 21])
 .ret)
 .skip))
 (.seq (.ops [mC 8 (.cl [])])
 (.seq (.seq (.ops [mT 22 6,cL 23 F.live_segment_clashes [(.t 22)],mC 24 (.int .i64 0)])
 (.block 0 (.loop (.seq (.ops [bN 25 .lss (.t 24) (cI 90)])
 (.seq (.cond (.t 25)
 .skip
 (.exit 0))
 (.seq (.block 1 (.seq (.ops [mT 26 24,o 27 (.ixa true 90 2 (.t 23) (.t 24)),o 10 (.alloc [(.int .u64 0),(.int .u64 0)]),mT 9 26,sT 2 10 27])
 (.seq (.ops [lT 28 2 10,cL 29 F.live_set_list [(.t 28)],lN 30 29,mC 31 (.int .i64 0)])
 (.block 2 (.loop (.seq (.ops [bN 32 .lss (.t 31) (.t 30)])
 (.seq (.cond (.t 32)
 .skip
 (.exit 2))
 (.seq (.block 3 (.seq (.ops [iA 33 1 29 31,l1 34 33,mT 12 34])
 (.seq (.ops [mT 35 9,mT 36 12,bN 37 .lss (.t 35) (.t 36)])
 (.cond (.t 37)
 (.ops [mT 38 8,mT 39 9,cL 40 F.live_variable [(.t 39)],mT 41 12,cL 42 F.live_variable [(.t 41)],
 o 43 (.build [(.bool false),(.int .i64 0),(.bool false),(.int .i64 0)] [(0,2,(.t 40)),(2,2,(.t 42))]),
 o 44 (.bslice 1 4 [(.bool false),(.int .i64 0),(.bool false),(.int .i64 0)] [(0,(.t 43))]),o 45 (.append 4 (.t 38) (.t 44)),mT 8 45])
 .skip))))
 (.ops [bN 46 .add (.t 31) (cI 1),mT 31 46])))))))))
 (.ops [bN 47 .add (.t 24) (cI 1),mT 24 47])))))))
 (.seq (.ops [mT 48 8,mT 4 48,mC 5 (.int .i64 0)])
 .ret)))))) }
def C.R12_SameBlocks : LFunc := { np := 2,res := [.tmp 4],keep := false,body :=
 (.seq (.ops [mC 4 (.bool false)])
 (.seq (.seq (.ops [mT 6 0,lN 7 6,mT 8 1,lN 9 8,bN 10 .neq (.t 7) (.t 9)])
 (.cond (.t 10)
 (.seq (.ops [mC 4 (.bool false)])
 .ret)
 .skip))
 (.seq (.seq (.ops [mC 5 (.int .i64 0)])
 (.block 0 (.loop (.seq (.seq (.ops [mT 11 5,mT 12 0,lN 13 12,bN 14 .lss (.t 11) (.t 13)])
 (.cond (.t 14)
 .skip
 (.exit 0)))
 (.seq (.block 1 (.seq (.draw [mT 17 0,mT 18 5,iA 19 3 17 18,fA 20 0 19,l1 21 20,mT 22 1,mT 23 5,iA 24 3 22 23,fA 25 0 24,l1 26 25,bN 27 .neq (.t 21) (.t 26),mT 28 27,
 gM 29 28 false 0,gM 30 28 false 5,og 31 28 false (.ia 3 (.t 29) (.t 30)),gF 32 28 false 1 31,g1 33 28 false 32,gM 34 28 false 1,gM 35 28 false 5,
 og 36 28 false (.ia 3 (.t 34) (.t 35)),gF 37 28 false 1 36,g1 38 28 false 37,gB 39 28 false .neq (.t 33) (.t 38),pO 40 28 39,mT 41 40,gM 42 41 false 0,
 gM 43 41 false 5,og 44 41 false (.ia 3 (.t 42) (.t 43)),gF 45 41 false 2 44,g1 46 41 false 45,gM 47 41 false 1,gM 48 41 false 5,og 49 41 false (.ia 3 (.t 47) (.t 48)),
 gF 50 41 false 2 49,g1 51 41 false 50,gL 52 41 false F.R05_Numbers [(.t 46),(.t 51)],og 53 41 false (.un .not (.t 52)),pO 54 41 53]
 [])
 (.cond (.t 54)
 (.seq (.ops [mC 4 (.bool false)])
 .ret)
 .skip)))
 (.ops [mT 15 5,bN 16 .add (.t 15) (cI 1),mT 5 16]))))))
 (.seq (.ops [mC 4 (.bool true)])
 .ret)))) }
def C.R12_SameLists : LFunc := { np := 2,res := [.tmp 4],keep := false,body :=
 (.seq (.ops [mC 4 (.bool false)])
 (.seq (.seq (.ops [mT 6 0,lN 7 6,mT 8 1,lN 9 8,bN 10 .neq (.t 7) (.t 9)])
 (.cond (.t 10)
 (.seq (.ops [mC 4 (.bool false)])
 .ret)
 .skip))
 (.seq (.seq (.ops [mC 5 (.int .i64 0)])
 (.block 0 (.loop (.seq (.seq (.ops [mT 11 5,mT 12 0,lN 13 12,bN 14 .lss (.t 11) (.t 13)])
 (.cond (.t 14)
 .skip
 (.exit 0)))
 (.seq (.block 1 (.seq (.draw [mT 17 0,mT 18 5,iA 19 1 17 18,l1 20 19,mT 21 1,mT 22 5,iA 23 1 21 22,l1 24 23,cL 25 F.R12_SameVars [(.t 20),(.t 24)],nT 26 25]
 [])
 (.cond (.t 26)
 (.seq (.ops [mC 4 (.bool false)])
 .ret)
 .skip)))
 (.ops [mT 15 5,bN 16 .add (.t 15) (cI 1),mT 5 16]))))))
 (.seq (.ops [mC 4 (.bool true)])
 .ret)))) }
def C.R12_SamePairs : LFunc := { np := 2,res := [.tmp 4],keep := false,body :=
 (.seq (.ops [mC 4 (.bool false)])
 (.seq (.seq (.ops [mT 6 0,lN 7 6,mT 8 1,lN 9 8,bN 10 .neq (.t 7) (.t 9)])
 (.cond (.t 10)
 (.seq (.ops [mC 4 (.bool false)])
 .ret)
 .skip))
 (.seq (.seq (.ops [mC 5 (.int .i64 0)])
 (.block 0 (.loop (.seq (.seq (.ops [mT 11 5,mT 12 0,lN 13 12,bN 14 .lss (.t 11) (.t 13)])
 (.cond (.t 14)
 .skip
 (.exit 0)))
 (.seq (.block 1 (.seq (.draw [mT 17 0,mT 18 5,iA 19 4 17 18,lT 20 4 19,mT 21 1,mT 22 5,iA 23 4 21 22,lT 24 4 23,
 o 25 (.bin .neq (.agg [.bool,.num,.bool,.num]) (.t 20) (.t 24))]
 [])
 (.cond (.t 25)
 (.seq (.ops [mC 4 (.bool false)])
 .ret)
 .skip)))
 (.ops [mT 15 5,bN 16 .add (.t 15) (cI 1),mT 5 16]))))))
 (.seq (.ops [mC 4 (.bool true)])
 .ret)))) }
def C.R12_SameAlloc : LFunc := { np := 2,res := [.tmp 4],keep := false,body :=
 (.seq (.ops [bX 2 2 0,bX 3 2 1,mC 4 (.bool false)])
 (.seq (.ops [fA 5 0 2,l1 6 5,fA 7 0 3,l1 8 7,cL 9 F.R12_SameVars [(.t 6),(.t 8)],mT 10 9,gF 11 10 true 1 2,g1 12 10 true 11,gF 13 10 true 1 3,g1 14 10 true 13,
 gL 15 10 true F.R05_Numbers [(.t 12),(.t 14)],pA 16 10 15,mT 4 16])
 .ret)) }
def C.code_Depths : LFunc := { np := 1,res := [.tmp 2,.tmp 3],keep := false,body :=
 (.seq (.ops [bX 1 5 0,mC 2 (.cl []),mC 3 (.int .i64 0)])
 (.seq (.seq (.ops [lT 11 5 1,cL 12 F.code_Check [(.t 11)],bN 13 .neq (.t 12) (cI 0)])
 (.cond (.t 13)
 (.seq (.ops [mC 2 (.cl []),mC 3 (.int .i64 2)])
 .ret)
 .skip))
 (.seq (.ops [fA 14 0 1,l1 15 14,lN 16 15,o 17 (.mklen 3 [(.bool false),(.int .i64 0),(.int .i64 0)] (.t 16) (.t 16)),o 4 (.alloc [(.cl [])]),sT 1 4 17])
 (.seq (.ops [o 5 (.alloc [(.cl [])])])
 (.seq (.ops [o 18 (.mkfn F.code_Depths_c1 [] [(.t 4),(.t 1),(.t 5)]),o 6 (.alloc [.nilf]),sT 1 6 18])
 (.seq (.seq (.ops [fA 19 2 1,l1 20 19,o 21 (.mkfn F.code_Depths_c2 [] [(.t 6)]),o 22 (.icall (.f F.code_all_int) [(.t 20),(.t 21)]),nT 23 22])
 (.cond (.t 23)
 (.seq (.ops [mC 2 (.cl []),mC 3 (.int .i64 7)])
 .ret)
 .skip))
 (.seq (.ops [o 7 (.alloc [(.bool false)]),on (.store 1 (.t 7) (cB true))])
 (.seq .skip
 (.seq (.block 0 (.loop (.seq (.seq (.ops [l1 24 5,lN 25 24,bN 26 .gtr (.t 25) (cI 0)])
 (.cond (.t 26)
 .skip
 (.exit 0)))
 (.block 1 (.seq (.ops [l1 27 5,l1 28 5,lN 29 28,bN 30 .sub (.t 29) (cI 1),iA 31 1 27 30,l1 32 31,mT 8 32])
 (.seq (.ops [l1 33 5,l1 34 5,lN 35 34,bN 36 .sub (.t 35) (cI 1),o 37 (.slice false 1 (.t 33) none (some (.t 36)) none),sT 1 5 37])
 (.seq (.draw [lT 38 5 1,mT 39 8,l1 40 4,mT 41 8,iA 42 3 40 41,lT 43 3 42,cL 44 F.code_follows [(.t 38),(.t 39),(.t 43)]]
 [])
 (.block 2 (.rangeF (.t 44) [45,46]
 (.seq (.ops [mT 9 45])
 (.ops [o 10 (.alloc [(.bool false),(.int .i64 0),(.int .i64 0)]),sT 3 10 46]))
 (.block 3 (.seq (.ops [l1 47 6,mT 48 9,lT 49 3 10,o 50 (.icall (.t 47) [(.t 48),(.t 49)]),sT 1 7 50])
 (.seq (.ops [l1 51 7,nT 52 51])
 (.cond (.t 52)
 (.exit 0)
 .skip)))))))))))))
 (.seq (.seq (.ops [l1 53 7,nT 54 53])
 (.cond (.t 54)
 (.seq (.ops [mC 2 (.cl []),mC 3 (.int .i64 7)])
 .ret)
 .skip))
 (.seq (.ops [l1 55 4,mT 2 55,mC 3 (.int .i64 0)])
 .ret))))))))))) }
def C.live_shapes : LFunc := { np := 0,res := [.tmp 0],keep := false,body :=
 (.seq (.ops [mC 0 .nilm])
 (.seq (.ops [o 8 (.mkmap),o 9 (.build [(.int .i64 0),(.bool false)] [(0,1,(cI 2)),(1,1,(cB false))]),on (.mput .num (.t 8) (cI 8) (.t 9)),
 o 10 (.build [(.int .i64 0),(.bool false)] [(0,1,(cI 1)),(1,1,(cB false))]),on (.mput .num (.t 8) (cI 9) (.t 10)),
 o 11 (.build [(.int .i64 0),(.bool false)] [(0,1,(cI 1)),(1,1,(cB false))]),on (.mput .num (.t 8) (cI 12) (.t 11)),
 o 12 (.build [(.int .i64 0),(.bool false)] [(0,1,(cI 1)),(1,1,(cB false))]),on (.mput .num (.t 8) (cI 19) (.t 12)),
 o 13 (.build [(.int .i64 0),(.bool false)] [(0,1,(cI 1)),(1,1,(cB false))]),on (.mput .num (.t 8) (cI 34) (.t 13)),mT 14 8,mT 1 14])
 (.seq (.seq (.ops [o 15 (.bslice 11 1 [(.int .i64 0)] [(0,(cI 1)),(1,(cI 2)),(2,(cI 3)),(3,(cI 5)),(4,(cI 26)),(5,(cI 30)),(6,(cI 33)),(7,(cI 4)),(8,(cI 6)),(9,(cI 31)),(10,(cI 32))]),
 lN 16 15,mC 17 (.int .i64 0)])
 (.block 0 (.loop (.seq (.ops [bN 18 .lss (.t 17) (.t 16)])
 (.seq (.cond (.t 18)
 .skip
 (.exit 0))
 (.seq (.block 1 (.seq (.ops [iA 19 1 15 17,l1 20 19,mT 3 20])
 (.ops [mT 21 1,mT 22 3,o 23 (.build [(.int .i64 0),(.bool false)] [(0,1,(cI 0)),(1,1,(cB true))]),on (.mput .num (.t 21) (.t 22) (.t 23))])))
 (.ops [bN 24 .add (.t 17) (cI 1),mT 17 24])))))))
 (.seq (.seq (.ops [o 25 (.bslice 6 1 [(.int .i64 0)] [(0,(cI 21)),(1,(cI 22)),(2,(cI 24)),(3,(cI 25)),(4,(cI 28)),(5,(cI 29))]),lN 26 25,mC 27 (.int .i64 0)])
 (.block 2 (.loop (.seq (.ops [bN 28 .lss (.t 27) (.t 26)])
 (.seq (.cond (.t 28)
 .skip
 (.exit 2))
 (.seq (.block 3 (.seq (.ops [iA 29 1 25 27,l1 30 29,mT 5 30])
 (.ops [mT 31 1,mT 32 5,o 33 (.build [(.int .i64 0),(.bool false)] [(0,1,(cI 1)),(1,1,(cB true))]),on (.mput .num (.t 31) (.t 32) (.t 33))])))
 (.ops [bN 34 .add (.t 27) (cI 1),mT 27 34])))))))
 (.seq (.seq (.ops [o 35 (.bslice 8 1 [(.int .i64 0)] [(0,(cI 7)),(1,(cI 13)),(2,(cI 14)),(3,(cI 15)),(4,(cI 16)),(5,(cI 17)),(6,(cI 23)),(7,(cI 27))]),lN 36 35,
 mC 37 (.int .i64 0)])
 (.block 4 (.loop (.seq (.ops [bN 38 .lss (.t 37) (.t 36)])
 (.seq (.cond (.t 38)
 .skip
 (.exit 4))
 (.seq (.block 5 (.seq (.ops [iA 39 1 35 37,l1 40 39,mT 7 40])
 (.ops [mT 41 1,mT 42 7,o 43 (.build [(.int .i64 0),(.bool false)] [(0,1,(cI 2)),(1,1,(cB true))]),on (.mput .num (.t 41) (.t 42) (.t 43))])))
 (.ops [bN 44 .add (.t 37) (cI 1),mT 37 44])))))))
 (.seq (.ops [mT 45 1,mT 0 45])
 .ret)))))) }
def C.live_program_stepOf : LFunc := { np := 3,res := [.cell 6 true 3],keep := false,body :=
 (.seq (.ops [o 6 (.alloc [(.cl []),(.cl []),(.cl [])])])
 (.seq (.draw [mT 11 0,nK 12 11,fA 13 0 12,fA 14 0 13,l1 15 14,mT 16 1,iA 17 3 15 16,lT 18 3 17,mT 19 0,nK 20 19,fA 21 5 20,l1 22 21,mT 23 1,iA 24 3 22 23,lT 25 3 24,
 o 7 (.alloc [(.int .i64 0),(.int .i64 0),(.int .i64 0)]),o 8 (.alloc [(.bool false),(.int .i64 0),(.int .i64 0)]),sT 3 7 18,sT 3 8 25]
 [(4,15),(6,15),(7,15),(11,15),(13,15),(14,15),(4,16),(6,16),(7,16),(11,16),(13,16),(14,16),(15,16),(11,17),(13,17),(14,17)])
 (.seq (.ops [mT 26 2,fA 27 0 7,l1 28 27,o 29 (.mget .num (.agg [(.int .i64 0),(.bool false)]) false (.t 26) (.t 28)),o 9 (.alloc [(.int .i64 0),(.bool false)]),
 sT 2 9 29])
 (.seq (.seq (.ops [fA 30 0 7,l1 31 30,bN 32 .eql (.t 31) (cI 18)])
 (.cond (.t 32)
 (.draw [mT 33 0,nK 34 33,fA 35 0 34,fA 36 4 35,l1 37 36,fA 38 1 7,l1 39 38,iA 40 2 37 39,fA 41 1 40,l1 42 41,
 o 43 (.build [(.int .i64 0),(.bool false)] [(0,1,(.t 42)),(1,1,(cB true))]),sT 2 9 43]
 [])
 .skip))
 (.seq (.ops [fA 44 1 8,l1 45 44,fA 46 0 9,l1 47 46,bN 48 .sub (.t 45) (.t 47),fA 49 0 9,l1 50 49,cL 51 F.live_count [(.t 48),(.t 50)],
 o 52 (.build [(.cl []),(.cl []),(.cl [])] [(0,1,(.t 51))]),o 10 (.alloc [(.cl []),(.cl []),(.cl [])]),sT 3 10 52])
 (.seq (.seq (.ops [fA 53 1 9,l1 54 53])
 (.cond (.t 54)
 (.ops [fA 55 1 8,l1 56 55,fA 57 0 9,l1 58 57,bN 59 .sub (.t 56) (.t 58),o 60 (.bslice 1 1 [(.int .i64 0)] [(0,(.t 59))]),fA 61 1 10,sT 1 61 60])
 .skip))
 (.seq (.seq (.ops [fA 62 0 7,l1 63 62])
 (.block 0 (.seq (.ops [bN 65 .eql (.t 63) (cI 4),mT 64 65])
 (.cond (.t 64)
 (.ops [fA 66 1 7,l1 67 66,cL 68 F.live_env [(.t 67)],o 69 (.bslice 1 1 [(.int .i64 0)] [(0,(.t 68))]),fA 70 0 10,sT 1 70 69])
 (.seq (.seq (.ops [bN 72 .eql (.t 63) (cI 6),mT 71 72])
 (.cond (.t 71)
 .skip
 (.seq (.ops [bN 73 .eql (.t 63) (cI 31),mT 71 73])
 (.cond (.t 71)
 .skip
 (.ops [bN 74 .eql (.t 63) (cI 32),mT 71 74])))))
 (.cond (.t 71)
 (.draw [cL 75 F.live_env [(cI 0)],fA 76 2 8,l1 77 76,cL 78 F.live_count [(.t 75),(.t 77)],fA 79 0 10,sT 1 79 78]
 [(0,2)])
 (.seq (.ops [bN 81 .eql (.t 63) (cI 9),mT 80 81])
 (.cond (.t 80)
 (.ops [fA 82 2 8,l1 83 82,cL 84 F.live_env [(.t 83)],o 85 (.bslice 1 1 [(.int .i64 0)] [(0,(.t 84))]),fA 86 1 10,sT 1 86 85])
 (.seq (.ops [bN 88 .eql (.t 63) (cI 19),mT 87 88])
 (.cond (.t 87)
 (.draw [fA 89 2 8,l1 90 89,cL 91 F.live_env [(.t 90)],mT 92 0,nK 93 92,fA 94 0 93,fA 95 1 94,l1 96 95,fA 97 1 7,l1 98 97,iA 99 4 96 98,lT 100 4 99,
 cL 101 F.live_names [(.t 100)],cL 102 F.live_count [(.t 91),(.t 101)],fA 103 1 10,sT 1 103 102]
 [(2,7),(2,9),(2,10),(2,11)])
 .skip))))))))))
 (.seq (.seq (.ops [fA 104 0 7,l1 105 104])
 (.block 1 (.seq (.seq (.ops [bN 114 .eql (.t 105) (cI 8),mT 113 114])
 (.cond (.t 113)
 .skip
 (.seq (.ops [bN 115 .eql (.t 105) (cI 20),mT 113 115])
 (.cond (.t 113)
 .skip
 (.ops [bN 116 .eql (.t 105) (cI 34),mT 113 116])))))
 (.cond (.t 113)
 .skip
 (.seq (.ops [bN 118 .eql (.t 105) (cI 11),mT 117 118])
 (.cond (.t 117)
 (.ops [fA 119 1 7,l1 120 119,o 121 (.build [(.int .i64 0),(.cl [])] [(0,1,(.t 120)),(1,1,(.c (.cl [])))]),o 122 (.bslice 1 2 [(.int .i64 0),(.cl [])] [(0,(.t 121))]),
 fA 123 2 10,sT 1 123 122])
 (.seq (.ops [bN 125 .eql (.t 105) (cI 12),mT 124 125])
 (.cond (.t 124)
 (.ops [mT 126 1,bN 127 .add (.t 126) (cI 1),o 128 (.build [(.int .i64 0),(.cl [])] [(0,1,(.t 127)),(1,1,(.c (.cl [])))]),fA 129 1 7,l1 130 129,
 o 131 (.build [(.int .i64 0),(.cl [])] [(0,1,(.t 130)),(1,1,(.c (.cl [])))]),o 132 (.bslice 2 2 [(.int .i64 0),(.cl [])] [(0,(.t 128)),(1,(.t 131))]),fA 133 2 10,
 sT 1 133 132])
 (.seq (.ops [bN 135 .eql (.t 105) (cI 19),mT 134 135])
 (.cond (.t 134)
 (.ops [mT 136 1,bN 137 .add (.t 136) (cI 1),fA 138 1 10,l1 139 138,o 140 (.build [(.int .i64 0),(.cl [])] [(0,1,(.t 137)),(1,1,(.t 139))]),fA 141 2 7,l1 142 141,
 o 143 (.build [(.int .i64 0),(.cl [])] [(0,1,(.t 142)),(1,1,(.c (.cl [])))]),o 144 (.bslice 2 2 [(.int .i64 0),(.cl [])] [(0,(.t 140)),(1,(.t 143))]),fA 145 2 10,
 sT 1 145 144])
 (.ops [mT 106 1,bN 107 .add (.t 106) (cI 1),fA 108 1 10,l1 109 108,o 110 (.build [(.int .i64 0),(.cl [])] [(0,1,(.t 107)),(1,1,(.t 109))]),
 o 111 (.bslice 1 2 [(.int .i64 0),(.cl [])] [(0,(.t 110))]),fA 112 2 10,sT 1 112 111])))))))))))
 (.seq (.ops [lT 146 3 10,sT 3 6 146])
 .ret))))))))) }
def C.live_program_reached_c1 : LFunc := { np := 2,res := [],keep := false,body :=
 (.seq (.ops [l1 5 1,nK 6 5,fA 7 5 6,l1 8 7,lN 9 8,mC 10 (.int .i64 0)])
 (.block 0 (.loop (.seq (.ops [bN 11 .lss (.t 10) (.t 9)])
 (.seq (.cond (.t 11)
 .skip
 (.exit 0))
 (.seq (.block 1 (.seq (.ops [mT 12 10,iA 13 3 8 10,lT 14 3 13,o 4 (.alloc [(.bool false),(.int .i64 0),(.int .i64 0)]),mT 3 12,sT 3 4 14])
 (.seq (.ops [fA 15 0 4,l1 16 15,mT 17 16,gM 18 17 true 0,gM 19 17 true 3,og 20 17 true (.icall (.t 18) [(.t 19)]),og 21 17 true (.un .not (.t 20)),pA 22 17 21])
 (.cond (.t 22)
 .ret
 .skip))))
 (.ops [bN 23 .add (.t 10) (cI 1),mT 10 23]))))))) }
def C.slices_pdqsortOrdered_int : LFunc := { np := 4,res := [],keep := false,body :=
 (.seq (.ops [mC 8 (.bool true)])
 (.seq (.ops [mC 9 (.bool true)])
 (.block 0 (.loop (.block 1 (.seq (.ops [mT 19 2,mT 20 1,bN 21 .sub (.t 19) (.t 20),mT 10 21])
 (.seq (.seq (.ops [mT 22 10,bN 23 .leq (.t 22) (cI 12)])
 (.cond (.t 23)
 (.seq (.ops [mT 24 0,mT 25 1,mT 26 2,cL 27 F.slices_insertionSortOrdered_int [(.t 24),(.t 25),(.t 26)]])
 .ret)
 .skip))
 (.seq (.seq (.ops [mT 28 3,bN 29 .eql (.t 28) (cI 0)])
 (.cond (.t 29)
 (.seq (.ops [mT 30 0,mT 31 1,mT 32 2,cL 33 F.slices_heapSortOrdered_int [(.t 30),(.t 31),(.t 32)]])
 .ret)
 .skip))
 (.seq (.seq (.ops [mT 34 8,nT 35 34])
 (.cond (.t 35)
 (.seq (.ops [mT 36 0,mT 37 1,mT 38 2,cL 39 F.slices_breakPatternsOrdered_int [(.t 36),(.t 37),(.t 38)]])
 (.ops [mT 40 3,bN 41 .sub (.t 40) (cI 1),mT 3 41]))
 .skip))
 (.seq (.ops [mT 43 0,mT 44 1,mT 45 2,cL 46 F.slices_choosePivotOrdered_int [(.t 43),(.t 44),(.t 45)],mT 42 46,o 47 (.ext 0 (.t 42)),o 48 (.ext 1 (.t 42)),mT 11 47,
 mT 12 48])
 (.seq (.seq (.ops [mT 49 12,bN 50 .eql (.t 49) (cI 2)])
 (.cond (.t 50)
 (.seq (.ops [mT 51 0,mT 52 1,mT 53 2,cL 54 F.slices_reverseRangeOrdered_int [(.t 51),(.t 52),(.t 53)]])
 (.seq (.ops [mT 55 2,bN 56 .sub (.t 55) (cI 1),mT 57 11,mT 58 1,bN 59 .sub (.t 57) (.t 58),bN 60 .sub (.t 56) (.t 59),mT 11 60])
 (.ops [mC 12 (.int .i64 1)])))
 .skip))
 (.seq (.seq (.ops [mT 61 8,mT 62 61,gM 63 62 true 9,pA 64 62 63,mT 65 64,gM 66 65 true 12,gB 67 65 true .eql (.t 66) (cI 1),pA 68 65 67])
 (.cond (.t 68)
 (.seq (.ops [mT 69 0,mT 70 1,mT 71 2,cL 72 F.slices_partialInsertionSortOrdered_int [(.t 69),(.t 70),(.t 71)]])
 (.cond (.t 72)
 .ret
 .skip))
 .skip))
 (.seq (.seq (.draw [mT 73 1,bN 74 .gtr (.t 73) (cI 0),mT 75 74,gM 76 75 true 0,gM 77 75 true 1,gB 78 75 true .sub (.t 77) (cI 1),og 79 75 true (.ia 1 (.t 76) (.t 78)),
 g1 80 75 true 79,gM 81 75 true 0,gM 82 75 true 11,og 83 75 true (.ia 1 (.t 81) (.t 82)),g1 84 75 true 83,gL 85 75 true F.cmp_Less_int [(.t 80),(.t 84)],
 og 86 75 true (.un .not (.t 85)),pA 87 75 86]
 [])
 (.cond (.t 87)
 (.seq (.ops [mT 88 0,mT 89 1,mT 90 2,mT 91 11,cL 92 F.slices_partitionEqualOrdered_int [(.t 88),(.t 89),(.t 90),(.t 91)],mT 13 92])
 (.seq (.ops [mT 93 13,mT 1 93])
 (.exit 1)))
 .skip))
 (.seq (.ops [mT 95 0,mT 96 1,mT 97 2,mT 98 11,cL 99 F.slices_partitionOrdered_int [(.t 95),(.t 96),(.t 97),(.t 98)],mT 94 99,o 100 (.ext 0 (.t 94)),
 o 101 (.ext 1 (.t 94)),mT 14 100,mT 15 101])
 (.seq (.ops [mT 102 15,mT 9 102])
 (.seq (.ops [mT 103 14,mT 104 1,bN 105 .sub (.t 103) (.t 104),mT 106 2,mT 107 14,bN 108 .sub (.t 106) (.t 107),mT 16 105,mT 17 108])
 (.seq (.ops [mT 109 10,bN 110 .quo (.t 109) (cI 8),mT 18 110])
 (.seq (.ops [mT 111 16,mT 112 17,bN 113 .lss (.t 111) (.t 112)])
 (.cond (.t 113)
 (.seq (.ops [mT 114 16,mT 115 18,bN 116 .geq (.t 114) (.t 115),mT 8 116])
 (.seq (.ops [mT 117 0,mT 118 1,mT 119 14,mT 120 3,cL 121 F.slices_pdqsortOrdered_int [(.t 117),(.t 118),(.t 119),(.t 120)]])
 (.ops [mT 122 14,bN 123 .add (.t 122) (cI 1),mT 1 123])))
 (.seq (.ops [mT 124 17,mT 125 18,bN 126 .geq (.t 124) (.t 125),mT 8 126])
 (.seq (.ops [mT 127 0,mT 128 14,bN 129 .add (.t 128) (cI 1),mT 130 2,mT 131 3,cL 132 F.slices_pdqsortOrdered_int [(.t 127),(.t 129),(.t 130),(.t 131)]])
 (.ops [mT 133 14,mT 2 133])))))))))))))))))))))) }
def C.math_bits_Len : LFunc := { np := 1,res := [.tmp 2],keep := false,body :=
 (.seq (.ops [mC 2 (.int .i64 0)])
 (.seq (.cond (cB false)
 (.seq (.ops [mT 3 0,o 4 (.wrap .u32 (.t 3)),cL 5 F.math_bits_Len32 [(.t 4)],mT 2 5])
 .ret)
 .skip)
 (.seq (.ops [mT 6 0,cL 7 F.math_bits_Len64 [(.t 6)],mT 2 7])
 .ret))) }
def C.live_variable : LFunc := { np := 1,res := [.cell 2 true 2],keep := false,body :=
 (.seq (.ops [o 2 (.alloc [(.bool false),(.int .i64 0)])])
 (.seq (.seq (.ops [mT 3 0,bN 4 .geq (.t 3) (cI 60)])
 (.cond (.t 4)
 (.seq (.ops [mT 5 0,bN 6 .sub (.t 5) (cI 60),o 7 (.build [(.bool false),(.int .i64 0)] [(0,1,(cB true)),(1,1,(.t 6))]),sT 2 2 7])
 .ret)
 .skip))
 (.seq (.ops [mT 8 0,o 9 (.build [(.bool false),(.int .i64 0)] [(1,1,(.t 8))]),sT 2 2 9])
 .ret))) }
def C.live_bag : LFunc := { np := 1,res := [.cell 2 true 2],keep := false,body :=
 (.seq (.ops [o 2 (.alloc [(.int .u64 0),(.int .u64 0)])])
 (.seq (.ops [o 3 (.alloc [(.int .u64 0),(.int .u64 0)])])
 (.seq (.seq (.ops [mT 6 0,lN 7 6,mC 8 (.int .i64 0)])
 (.block 0 (.loop (.seq (.ops [bN 9 .lss (.t 8) (.t 7)])
 (.seq (.cond (.t 9)
 .skip
 (.exit 0))
 (.seq (.block 1 (.seq (.ops [iA 10 1 6 8,l1 11 10,mT 5 11])
 (.ops [lT 12 2 3,mT 13 5,cL 14 F.live_set_with [(.t 12),(.t 13)],sT 2 3 14])))
 (.ops [bN 15 .add (.t 8) (cI 1),mT 8 15])))))))
 (.seq (.ops [lT 16 2 3,sT 2 2 16])
 .ret)))) }
def C.live_set_and : LFunc := { np := 2,res := [.cell 4 true 2],keep := false,body :=
 (.seq (.ops [bX 2 2 0,bX 3 2 1,o 4 (.alloc [(.int .u64 0),(.int .u64 0)])])
 (.seq (.seq (.ops [mC 6 (.int .i64 0)])
 (.block 0 (.loop (.seq (.ops [bN 7 .lss (.t 6) (cI 2)])
 (.seq (.cond (.t 7)
 .skip
 (.exit 0))
 (.seq (.block 1 (.seq (.ops [mT 8 6,mT 5 8])
 (.draw [mT 9 5,o 10 (.iaa 2 1 (.t 2) (.t 9)),l1 11 10,mT 12 5,o 13 (.iaa 2 1 (.t 3) (.t 12)),l1 14 13,bN 15 .or (.t 11) (.t 14),o 16 (.iaa 2 1 (.t 2) (.t 9)),
 sT 1 16 15]
 [])))
 (.ops [bN 17 .add (.t 6) (cI 1),mT 6 17])))))))
 (.seq (.ops [lT 18 2 2,sT 2 4 18])
 .ret))) }
def C.live_set_less : LFunc := { np := 2,res := [.cell 4 true 2],keep := false,body :=
 (.seq (.ops [bX 2 2 0,bX 3 2 1,o 4 (.alloc [(.int .u64 0),(.int .u64 0)])])
 (.seq (.seq (.ops [mC 6 (.int .i64 0)])
 (.block 0 (.loop (.seq (.ops [bN 7 .lss (.t 6) (cI 2)])
 (.seq (.cond (.t 7)
 .skip
 (.exit 0))
 (.seq (.block 1 (.seq (.ops [mT 8 6,mT 5 8])
 (.draw [mT 9 5,o 10 (.iaa 2 1 (.t 2) (.t 9)),l1 11 10,mT 12 5,o 13 (.iaa 2 1 (.t 3) (.t 12)),l1 14 13,bN 15 .andNot (.t 11) (.t 14),o 16 (.iaa 2 1 (.t 2) (.t 9)),
 sT 1 16 15]
 [])))
 (.ops [bN 17 .add (.t 6) (cI 1),mT 6 17])))))))
 (.seq (.ops [lT 18 2 2,sT 2 4 18])
 .ret))) }
def C.math_bits_TrailingZeros64 : LFunc := { np := 1,res := [.tmp 2],keep := false,body :=
 (.seq (.ops [mC 2 (.int .i64 0)])
 (.seq (.seq (.ops [mT 3 0,bN 4 .eql (.t 3) (.c (.int .u64 0))])
 (.cond (.t 4)
 (.seq (.ops [mC 2 (.int .i64 64)])
 .ret)
 .skip))
 (.seq (.ops [mT 5 0,mT 6 0,o 7 (.un .neg (.t 6)),bN 8 .and (.t 5) (.t 7),bN 9 .mul (.t 8) (.c (.int .u64 285870213051353865)),bN 10 .shr (.t 9) (.c (.int .u64 58)),
 o 11 (.iaa 64 1 (.c (.fp Tab 0)) (.t 10)),l1 12 11,o 13 (.wrap .i64 (.t 12)),mT 2 13])
 .ret))) }
def C.live_segment_wrong_c1 : LFunc := { np := 3,res := [.cell 5 true 181],keep := false,body :=
 (.seq (.ops [bX 3 180 0,bX 4 2 1,o 5 (.alloc ([(.int .i64 0)] ++ List.replicate 180 (.int .u64 0)))])
 (.seq (.seq (.ops [fA 8 1 4,l1 9 8,lN 10 9,mC 11 (.int .i64 0)])
 (.block 0 (.loop (.seq (.ops [bN 12 .lss (.t 11) (.t 10)])
 (.seq (.cond (.t 12)
 .skip
 (.exit 0))
 (.seq (.block 1 (.seq (.ops [iA 13 1 9 11,l1 14 13,mT 7 14])
 (.draw [mT 15 7,o 16 (.iaa 90 1 (.t 2) (.t 15)),l1 17 16,o 18 (.build [(.int .u64 0),(.int .u64 0)] []),mT 19 7,cL 20 F.live_set_with [(.t 18),(.t 19)],
 o 21 (.iaa 90 2 (.t 3) (.t 17)),sT 2 21 20]
 [(2,5)])))
 (.ops [bN 22 .add (.t 11) (cI 1),mT 11 22])))))))
 (.seq (.ops [fA 23 0 4,l1 24 23,lT 25 180 3,o 26 (.build ([(.int .i64 0)] ++ List.replicate 180 (.int .u64 0)) [(0,1,(.t 24)),(1,180,(.t 25))]),sT 181 5 26])
 .ret))) }
def C.live_set_with : LFunc := { np := 2,res := [.cell 4 true 2],keep := false,body :=
 (.seq (.ops [bX 2 2 0,o 4 (.alloc [(.int .u64 0),(.int .u64 0)])])
 (.seq (.draw [mT 5 1,bN 6 .quo (.t 5) (cI 64),o 7 (.iaa 2 1 (.t 2) (.t 6)),l1 8 7,mT 9 1,bN 10 .rem (.t 9) (cI 64),bN 11 .shl (.c (.int .u64 1)) (.t 10),
 bN 12 .or (.t 8) (.t 11),o 13 (.iaa 2 1 (.t 2) (.t 6)),sT 1 13 12]
 [])
 (.seq (.ops [lT 14 2 2,sT 2 4 14])
 .ret))) }
def C.live_segment_begins : LFunc := { np := 1,res := [.tmp 2],keep := false,body :=
 (.seq (.ops [mC 2 (.cl [])])
 (.seq (.draw [cL 3 F.live_env [(cI 0)],mT 4 0,nK 5 4,fA 6 0 5,l1 7 6,nK 8 7,fA 9 5 8,l1 10 9,mT 11 0,nK 12 11,fA 13 1 12,l1 14 13,iA 15 3 10 14,fA 16 2 15,l1 17 16,
 cL 18 F.live_count [(.t 3),(.t 17)],mT 2 18]
 [(0,4),(0,7),(0,11),(0,12),(0,14)])
 .ret)) }
def C.slices_Grow_s_int_int : LFunc := { np := 2,res := [.tmp 4],keep := false,body :=
 (.seq (.ops [mC 4 (.cl [])])
 (.seq (.seq (.ops [mT 5 1,bN 6 .lss (.t 5) (cI 0)])
 (.cond (.t 6)
 (.opsP [o 7 (.iface 9 (.c (.str ⟨#[99,97,110,110,111,116,32,98,101,32,110,101,103,97,116,105,118,101]⟩))),on (.panic (.t 7))])
 .skip))
 (.seq (.seq (.ops [mT 8 1,mT 9 0,o 10 (.len .func (.t 9)),mT 11 0,lN 12 11,bN 13 .sub (.t 10) (.t 12),bN 14 .sub (.t 8) (.t 13),mT 1 14])
 (.seq (.ops [mT 15 1,bN 16 .gtr (.t 15) (cI 0)])
 (.cond (.t 16)
 (.ops [mT 17 0,mT 18 0,o 19 (.len .func (.t 18)),o 20 (.slice false 1 (.t 17) none (some (.t 19)) none),mT 21 1,o 22 (.appendZ 1 [(.int .i64 0)] (.t 20) (.t 21)),
 mT 23 0,lN 24 23,o 25 (.slice false 1 (.t 22) none (some (.t 24)) none),mT 0 25])
 .skip)))
 (.seq (.ops [mT 26 0,mT 4 26])
 .ret)))) }
def C.slices_stableCmpFunc_int : LFunc := { np := 3,res := [],keep := false,body :=
 (.seq (.ops [mC 6 (.int .i64 20)])
 (.seq (.ops [mT 10 6,mC 7 (.int .i64 0),mT 8 10])
 (.seq (.block 0 (.loop (.seq (.seq (.ops [mT 11 8,mT 12 1,bN 13 .leq (.t 11) (.t 12)])
 (.cond (.t 13)
 .skip
 (.exit 0)))
 (.block 1 (.seq (.ops [mT 14 0,mT 15 7,mT 16 8,mT 17 2,o 18 (.icall (.f F.slices_insertionSortCmpFunc_int) [(.t 14),(.t 15),(.t 16),(.t 17)])])
 (.seq (.ops [mT 19 8,mT 7 19])
 (.ops [mT 20 8,mT 21 6,bN 22 .add (.t 20) (.t 21),mT 8 22])))))))
 (.seq (.ops [mT 23 0,mT 24 7,mT 25 1,mT 26 2,o 27 (.icall (.f F.slices_insertionSortCmpFunc_int) [(.t 23),(.t 24),(.t 25),(.t 26)])])
 (.block 2 (.loop (.seq (.seq (.ops [mT 28 6,mT 29 1,bN 30 .lss (.t 28) (.t 29)])
 (.cond (.t 30)
 .skip
 (.exit 2)))
 (.block 3 (.seq (.ops [mT 31 6,bN 32 .mul (cI 2) (.t 31),mC 7 (.int .i64 0),mT 8 32])
 (.seq (.block 4 (.loop (.seq (.seq (.ops [mT 33 8,mT 34 1,bN 35 .leq (.t 33) (.t 34)])
 (.cond (.t 35)
 .skip
 (.exit 4)))
 (.block 5 (.seq (.ops [mT 36 0,mT 37 7,mT 38 7,mT 39 6,bN 40 .add (.t 38) (.t 39),mT 41 8,mT 42 2,
 o 43 (.icall (.f F.slices_symMergeCmpFunc_int) [(.t 36),(.t 37),(.t 40),(.t 41),(.t 42)])])
 (.seq (.ops [mT 44 8,mT 7 44])
 (.ops [mT 45 8,mT 46 6,bN 47 .mul (cI 2) (.t 46),bN 48 .add (.t 45) (.t 47),mT 8 48])))))))
 (.seq (.seq (.ops [mT 49 7,mT 50 6,bN 51 .add (.t 49) (.t 50),mT 9 51])
 (.seq (.ops [mT 52 9,mT 53 1,bN 54 .lss (.t 52) (.t 53)])
 (.cond (.t 54)
 (.ops [mT 55 0,mT 56 7,mT 57 9,mT 58 1,mT 59 2,o 60 (.icall (.f F.slices_symMergeCmpFunc_int) [(.t 55),(.t 56),(.t 57),(.t 58),(.t 59)])])
 .skip)))
 (.ops [mT 61 6,bN 62 .mul (.t 61) (cI 2),mT 6 62])))))))))))) }
def C.cmp_isNaN_int : LFunc := { np := 1,res := [.tmp 2],keep := false,body :=
 (.seq (.ops [mC 2 (.bool false)])
 (.seq (.ops [mT 3 0,mT 4 0,bN 5 .neq (.t 3) (.t 4),mT 2 5])
 .ret)) }
def C.slices_Contains_s_int_int : LFunc := { np := 2,res := [.tmp 4],keep := false,body :=
 (.seq (.ops [mC 4 (.bool false)])
 (.seq (.ops [mT 5 0,mT 6 1,cL 7 F.slices_Index_s_int_int [(.t 5),(.t 6)],bN 8 .geq (.t 7) (cI 0),mT 4 8])
 .ret)) }
def C.live_segment_edges : LFunc := { np := 1,res := [.tmp 2],keep := false,body :=
 (.seq (.ops [mC 2 (.cl [])])
 (.seq (.draw [mT 6 0,nK 7 6,fA 8 1 7,l1 9 8,mT 10 0,cL 11 F.live_segment_begins [(.t 10)],o 12 (.build [(.int .i64 0),(.cl [])] [(0,1,(.t 9)),(1,1,(.t 11))]),
 o 13 (.bslice 1 2 [(.int .i64 0),(.cl [])] [(0,(.t 12))]),mT 3 13]
 [(3,5)])
 (.seq (.seq (.ops [mT 14 0,nK 15 14,fA 16 2 15,l1 17 16,lN 18 17,mC 19 (.int .i64 0)])
 (.block 0 (.loop (.seq (.ops [bN 20 .lss (.t 19) (.t 18)])
 (.seq (.cond (.t 20)
 .skip
 (.exit 0))
 (.seq (.block 1 (.seq (.ops [mT 21 19,iA 22 1 17 19,l1 23 22,mT 4 21,mT 5 23])
 (.seq (.ops [mT 24 5])
 (.cond (.t 24)
 (.ops [mT 25 3,mT 26 0,nK 27 26,fA 28 0 27,l1 29 28,nK 30 29,fA 31 6 30,l1 32 31,mT 33 4,iA 34 3 32 33,fA 35 2 34,l1 36 35,o 37 (.append 2 (.t 25) (.t 36)),mT 3 37])
 .skip))))
 (.ops [bN 38 .add (.t 19) (cI 1),mT 19 38])))))))
 (.seq (.ops [mT 39 3,mT 2 39])
 .ret)))) }
def C.slices_IndexFunc_s_int_int : LFunc := { np := 2,res := [.tmp 4],keep := false,body :=
 (.seq (.ops [mC 4 (.int .i64 0)])
 (.seq (.seq (.ops [mT 6 0,lN 7 6,mC 8 (.int .i64 0)])
 (.block 0 (.loop (.seq (.ops [bN 9 .lss (.t 8) (.t 7)])
 (.seq (.cond (.t 9)
 .skip
 (.exit 0))
 (.seq (.block 1 (.seq (.ops [mT 10 8,mT 5 10])
 (.seq (.ops [mT 11 1,mT 12 0,mT 13 5,iA 14 1 12 13,l1 15 14,o 16 (.icall (.t 11) [(.t 15)])])
 (.cond (.t 16)
 (.seq (.ops [mT 17 5,mT 4 17])
 .ret)
 .skip))))
 (.ops [bN 18 .add (.t 8) (cI 1),mT 8 18])))))))
 (.seq (.ops [mC 4 (.int .i64 (-1))])
 .ret))) }
def C.R05_Numbers : LFunc := { np := 2,res := [.tmp 4],keep := false,body :=
 (.seq (.ops [mC 4 (.bool false)])
 (.seq (.ops [mT 5 0,mT 6 1,cL 7 F.R05_same [(.t 5),(.t 6)],mT 4 7])
 .ret)) }
def C.R12_SameVars : LFunc := { np := 2,res := [.tmp 4],keep := false,body :=
 (.seq (.ops [mC 4 (.bool false)])
 (.seq (.seq (.ops [mT 6 0,lN 7 6,mT 8 1,lN 9 8,bN 10 .neq (.t 7) (.t 9)])
 (.cond (.t 10)
 (.seq (.ops [mC 4 (.bool false)])
 .ret)
 .skip))
 (.seq (.seq (.ops [mC 5 (.int .i64 0)])
 (.block 0 (.loop (.seq (.seq (.ops [mT 11 5,mT 12 0,lN 13 12,bN 14 .lss (.t 11) (.t 13)])
 (.cond (.t 14)
 .skip
 (.exit 0)))
 (.seq (.block 1 (.seq (.draw [mT 17 0,mT 18 5,iA 19 2 17 18,lT 20 2 19,mT 21 1,mT 22 5,iA 23 2 21 22,lT 24 2 23,o 25 (.bin .neq (.agg [.bool,.num]) (.t 20) (.t 24))]
 [])
 (.cond (.t 25)
 (.seq (.ops [mC 4 (.bool false)])
 .ret)
 .skip)))
 (.ops [mT 15 5,bN 16 .add (.t 15) (cI 1),mT 5 16]))))))
 (.seq (.ops [mC 4 (.bool true)])
 .ret)))) }
def C.code_Check : LFunc := { np := 1,res := [.tmp 2],keep := false,body :=
 (.seq (.ops [bX 1 5 0,mC 2 (.int .i64 0)])
 (.seq (.ops [fA 4 0 1,l1 5 4,lN 6 5,o 3 (.alloc [(.int .i64 0)]),sT 1 3 6])
 (.seq (.seq (.ops [l1 7 3,cL 8 F.code_in [(.t 7),(cI 1),(cI 1500)],nT 9 8,mT 10 9,gF 11 10 false 1 1,g1 12 10 false 11,gN 13 10 false 12,
 gB 14 10 false .gtr (.t 13) (cI 100),pO 15 10 14,mT 16 15,gF 17 16 false 4 1,g1 18 16 false 17,gL 19 16 false F.code_constructors [(.t 18)],
 og 20 16 false (.un .not (.t 19)),pO 21 16 20,mT 22 21,gF 23 22 false 2 1,g1 24 22 false 23,gN 25 22 false 24,gL 26 22 false F.code_in [(.t 25),(cI 1),(cI 300)],
 og 27 22 false (.un .not (.t 26)),pO 28 22 27,mT 29 28,gF 30 29 false 3 1,g1 31 29 false 30,gF 32 29 false 2 1,g1 33 29 false 32,gN 34 29 false 33,
 gB 35 29 false .sub (.t 34) (cI 1),gL 36 29 false F.code_in [(.t 31),(cI 0),(.t 35)],og 37 29 false (.un .not (.t 36)),pO 38 29 37])
 (.cond (.t 38)
 (.seq (.ops [mC 2 (.int .i64 2)])
 .ret)
 .skip))
 (.seq (.seq (.ops [fA 39 2 1,l1 40 39,o 41 (.mkfn F.code_Check_c1 [] [(.t 3)]),cL 42 F.code_all_int [(.t 40),(.t 41)],nT 43 42,mT 44 43,gF 45 44 false 1 1,
 g1 46 44 false 45,og 47 44 false (.mkfn F.code_Check_c2 [] [(.t 1)]),gL 48 44 false F.code_all_api_TermPat [(.t 46),(.t 47)],og 49 44 false (.un .not (.t 48)),
 pO 50 44 49])
 (.cond (.t 50)
 (.seq (.ops [mC 2 (.int .i64 2)])
 .ret)
 .skip))
 (.seq (.seq (.ops [fA 51 0 1,l1 52 51,o 53 (.mkfn F.code_Check_c3 [] [(.t 1)]),cL 54 F.code_all_api_CodeIns [(.t 52),(.t 53)],nT 55 54])
 (.cond (.t 55)
 (.seq (.ops [mC 2 (.int .i64 2)])
 .ret)
 .skip))
 (.seq (.ops [mC 2 (.int .i64 0)])
 .ret)))))) }
def C.code_Depths_c1 : LFunc := { np := 5,res := [.tmp 7],keep := false,body :=
 (.seq (.ops [bX 6 3 1,mC 7 (.bool false)])
 (.seq (.seq (.draw [mT 8 0,l1 9 2,lN 10 9,bN 11 .geq (.t 8) (.t 10),mT 12 11,gF 13 12 false 1 6,g1 14 12 false 13,gB 15 12 false .gtr (.t 14) (cI 60),pO 16 12 15,
 mT 17 16,gF 18 17 false 2 6,g1 19 17 false 18,gB 20 17 false .gtr (.t 19) (cI 30),pO 21 17 20,mT 22 21,g1 23 22 false 2,gM 24 22 false 0,
 og 25 22 false (.ia 3 (.t 23) (.t 24)),gF 26 22 false 0 25,g1 27 22 false 26,gM 28 22 false 27,g1 29 28 true 2,gM 30 28 true 0,og 31 28 true (.ia 3 (.t 29) (.t 30)),
 gT 32 28 true 3 31,gT 33 28 true 3 6,og 34 28 true (.bin .neq (.agg [.bool,.num,.num]) (.t 32) (.t 33)),og 35 22 false (.pick (.t 28) (.t 34) (cB false)),pO 36 22 35,
 mT 37 36,gT 38 37 false 5 3,gF 39 37 false 0 3,g1 40 37 false 39,gM 41 37 false 0,og 42 37 false (.ia 3 (.t 40) (.t 41)),gT 43 37 false 3 42,
 gL 44 37 false F.code_wanted [(.t 38),(.t 43)],gT 45 37 false 3 6,
 og 46 37 false (.call (.m [(194,F.code_wide_met),(196,F.code_least_met),(197,F.code_just_met)] 44) [(.t 45)]),og 47 37 false (.un .not (.t 46)),pO 48 37 47]
 [(36,37)])
 (.cond (.t 48)
 (.seq (.ops [mC 7 (.bool false)])
 .ret)
 .skip))
 (.seq (.seq (.ops [l1 49 2,mT 50 0,iA 51 3 49 50,fA 52 0 51,l1 53 52,nT 54 53])
 (.cond (.t 54)
 (.seq (.ops [l1 55 2,mT 56 0,lT 57 3 6,iA 58 3 55 56,sT 3 58 57])
 (.ops [l1 59 4,mT 60 0,o 61 (.bslice 1 1 [(.int .i64 0)] [(0,(.t 60))]),o 62 (.append 1 (.t 59) (.t 61)),sT 1 4 62]))
 .skip))
 (.seq (.ops [mC 7 (.bool true)])
 .ret)))) }
def C.code_wanted : LFunc := { np := 2,res := [.tmp 4],keep := false,body :=
 (.seq (.ops [bX 2 5 0,bX 3 3 1,mC 4 .nili])
 (.seq (.seq (.ops [fA 5 0 3,l1 6 5])
 (.block 0 (.seq (.ops [bN 8 .eql (.t 6) (cI 4),mT 7 8])
 (.cond (.t 7)
 (.seq (.ops [fA 9 1 3,l1 10 9,bN 11 .add (.t 10) (cI 1),o 12 (.build [(.int .i64 0)] [(0,1,(.t 11))]),o 13 (.iface 194 (.t 12)),mT 4 13])
 .ret)
 (.seq (.ops [bN 15 .eql (.t 6) (cI 10),mT 14 15])
 (.cond (.t 14)
 (.seq (.ops [fA 16 1 3,l1 17 16,o 18 (.build [(.int .i64 0)] [(0,1,(.t 17))]),o 19 (.iface 194 (.t 18)),mT 4 19])
 .ret)
 (.seq (.seq (.ops [bN 21 .eql (.t 6) (cI 7),mT 20 21])
 (.cond (.t 20)
 .skip
 (.seq (.ops [bN 22 .eql (.t 6) (cI 13),mT 20 22])
 (.cond (.t 20)
 .skip
 (.seq (.ops [bN 23 .eql (.t 6) (cI 14),mT 20 23])
 (.cond (.t 20)
 .skip
 (.seq (.ops [bN 24 .eql (.t 6) (cI 15),mT 20 24])
 (.cond (.t 20)
 .skip
 (.seq (.ops [bN 25 .eql (.t 6) (cI 16),mT 20 25])
 (.cond (.t 20)
 .skip
 (.seq (.ops [bN 26 .eql (.t 6) (cI 17),mT 20 26])
 (.cond (.t 20)
 .skip
 (.seq (.ops [bN 27 .eql (.t 6) (cI 23),mT 20 27])
 (.cond (.t 20)
 .skip
 (.ops [bN 28 .eql (.t 6) (cI 27),mT 20 28])))))))))))))))
 (.cond (.t 20)
 (.seq (.ops [o 29 (.build [(.int .i64 0)] [(0,1,(cI 2))]),o 30 (.iface 196 (.t 29)),mT 4 30])
 .ret)
 (.seq (.ops [bN 32 .eql (.t 6) (cI 8),mT 31 32])
 (.cond (.t 31)
 (.seq (.ops [o 33 (.build [(.int .i64 0)] [(0,1,(cI 2))]),o 34 (.iface 197 (.t 33)),mT 4 34])
 .ret)
 (.seq (.ops [bN 36 .eql (.t 6) (cI 34),mT 35 36])
 (.cond (.t 35)
 (.seq (.ops [o 37 (.build [(.int .i64 0)] [(0,1,(cI 1))]),o 38 (.iface 197 (.t 37)),mT 4 38])
 .ret)
 (.seq (.seq (.ops [bN 40 .eql (.t 6) (cI 9),mT 39 40])
 (.cond (.t 39)
 .skip
 (.seq (.ops [bN 41 .eql (.t 6) (cI 12),mT 39 41])
 (.cond (.t 39)
 .skip
 (.seq (.ops [bN 42 .eql (.t 6) (cI 19),mT 39 42])
 (.cond (.t 39)
 .skip
 (.seq (.ops [bN 43 .eql (.t 6) (cI 21),mT 39 43])
 (.cond (.t 39)
 .skip
 (.seq (.ops [bN 44 .eql (.t 6) (cI 22),mT 39 44])
 (.cond (.t 39)
 .skip
 (.seq (.ops [bN 45 .eql (.t 6) (cI 24),mT 39 45])
 (.cond (.t 39)
 .skip
 (.seq (.ops [bN 46 .eql (.t 6) (cI 25),mT 39 46])
 (.cond (.t 39)
 .skip
 (.seq (.ops [bN 47 .eql (.t 6) (cI 28),mT 39 47])
 (.cond (.t 39)
 .skip
 (.ops [bN 48 .eql (.t 6) (cI 29),mT 39 48])))))))))))))))))
 (.cond (.t 39)
 (.seq (.ops [o 49 (.build [(.int .i64 0)] [(0,1,(cI 1))]),o 50 (.iface 196 (.t 49)),mT 4 50])
 .ret)
 (.seq (.ops [bN 52 .eql (.t 6) (cI 18),mT 51 52])
 (.cond (.t 51)
 (.seq (.ops [fA 53 4 2,l1 54 53,fA 55 1 3,l1 56 55,iA 57 2 54 56,fA 58 1 57,l1 59 58,o 60 (.build [(.int .i64 0)] [(0,1,(.t 59))]),o 61 (.iface 196 (.t 60)),mT 4 61])
 .ret)
 .skip))))))))))))))))
 (.seq (.ops [o 62 (.build [(.int .i64 0)] [(0,1,(cI 0))]),o 63 (.iface 196 (.t 62)),mT 4 63])
 .ret))) }
def C.code_all_int : LFunc := { np := 2,res := [.tmp 4],keep := false,body :=
 (.seq (.ops [bX 3 1 1,mC 4 (.bool false)])
 (.seq (.ops [mT 5 0,o 6 (.mkfn F.code_all_int_c1 [] [(.t 3)]),o 7 (.icall (.f F.slices_ContainsFunc_s_int_int) [(.t 5),(.t 6)]),nT 8 7,mT 4 8])
 .ret)) }
def C.code_Depths_c2 : LFunc := { np := 2,res := [.tmp 3],keep := false,body :=
 (.seq (.ops [mC 3 (.bool false)])
 (.seq (.draw [l1 4 1,mT 5 0,cL 6 F.code_depth [(cI 0),(cI 1)],o 7 (.icall (.t 4) [(.t 5),(.t 6)]),mT 3 7]
 [(0,2)])
 .ret)) }
def C.code_depth : LFunc := { np := 2,res := [.cell 4 true 3],keep := false,body :=
 (.seq (.ops [o 4 (.alloc [(.bool false),(.int .i64 0),(.int .i64 0)])])
 (.seq (.ops [mT 5 0,mT 6 1,o 7 (.build [(.bool false),(.int .i64 0),(.int .i64 0)] [(0,1,(cB true)),(1,1,(.t 5)),(2,1,(.t 6))]),sT 3 4 7])
 .ret)) }
def C.code_follows : LFunc := { np := 3,res := [.tmp 6],keep := false,body :=
 (.seq (.ops [bX 3 5 0,bX 4 1 1,bX 5 3 2,mC 6 .nilf])
 (.seq (.ops [fA 8 0 3,l1 9 8,l1 10 4,iA 11 3 9 10,lT 12 3 11,o 7 (.alloc [(.int .i64 0),(.int .i64 0),(.int .i64 0)]),sT 3 7 12])
 (.seq (.ops [o 13 (.mkfn F.code_follows_c1 [] [(.t 3),(.t 7),(.t 5),(.t 4)]),mT 6 13])
 .ret))) }
def C.live_count : LFunc := { np := 2,res := [.tmp 4],keep := false,body :=
 (.seq (.ops [mC 4 (.cl [])])
 (.seq (.ops [mC 5 (.cl [])])
 (.seq (.seq (.ops [mT 7 1,mC 8 (.int .i64 0)])
 (.block 0 (.loop (.seq (.ops [bN 9 .lss (.t 8) (.t 7)])
 (.seq (.cond (.t 9)
 .skip
 (.exit 0))
 (.seq (.block 1 (.seq (.ops [mT 10 8,mT 6 10])
 (.ops [mT 11 5,mT 12 0,mT 13 6,bN 14 .add (.t 12) (.t 13),o 15 (.bslice 1 1 [(.int .i64 0)] [(0,(.t 14))]),o 16 (.append 1 (.t 11) (.t 15)),mT 5 16])))
 (.ops [bN 17 .add (.t 8) (cI 1),mT 8 17])))))))
 (.seq (.ops [mT 18 5,mT 4 18])
 .ret)))) }
def C.live_env : LFunc := { np := 1,res := [.tmp 2],keep := false,body :=
 (.seq (.ops [mC 2 (.int .i64 0)])
 (.seq (.ops [mT 3 0,bN 4 .add (cI 60) (.t 3),mT 2 4])
 .ret)) }
def C.live_names : LFunc := { np := 1,res := [.tmp 2],keep := false,body :=
 (.seq (.ops [bX 1 4 0,mC 2 (.int .i64 0)])
 (.seq (.ops [mC 3 (.int .i64 0)])
 (.seq (.seq (.ops [fA 6 0 1,l1 7 6,bN 8 .eql (.t 7) (cI 2)])
 (.cond (.t 8)
 (.ops [mC 3 (.int .i64 1)])
 .skip))
 (.seq (.seq (.ops [fA 9 3 1,l1 10 9,lN 11 10,mC 12 (.int .i64 0)])
 (.block 0 (.loop (.seq (.ops [bN 13 .lss (.t 12) (.t 11)])
 (.seq (.cond (.t 13)
 .skip
 (.exit 0))
 (.seq (.block 1 (.seq (.ops [iA 14 4 10 12,lT 15 4 14,o 5 (.alloc [(.int .i64 0),(.int .i64 0),(.str ⟨#[]⟩),(.cl [])]),sT 4 5 15])
 (.ops [mT 16 3,lT 17 4 5,cL 18 F.live_names [(.t 17)],bN 19 .add (.t 16) (.t 18),mT 3 19])))
 (.ops [bN 20 .add (.t 12) (cI 1),mT 12 20])))))))
 (.seq (.ops [mT 21 3,mT 2 21])
 .ret))))) }
def C.slices_insertionSortOrdered_int : LFunc := { np := 3,res := [],keep := false,body :=
 (.seq (.ops [mT 8 1,bN 9 .add (.t 8) (cI 1),mT 6 9])
 (.block 0 (.loop (.seq (.seq (.ops [mT 10 6,mT 11 2,bN 12 .lss (.t 10) (.t 11)])
 (.cond (.t 12)
 .skip
 (.exit 0)))
 (.seq (.block 1 (.seq (.ops [mT 15 6,mT 7 15])
 (.block 2 (.loop (.seq (.seq (.draw [mT 16 7,mT 17 1,bN 18 .gtr (.t 16) (.t 17),mT 19 18,gM 20 19 true 0,gM 21 19 true 7,og 22 19 true (.ia 1 (.t 20) (.t 21)),
 g1 23 19 true 22,gM 24 19 true 0,gM 25 19 true 7,gB 26 19 true .sub (.t 25) (cI 1),og 27 19 true (.ia 1 (.t 24) (.t 26)),g1 28 19 true 27,
 gL 29 19 true F.cmp_Less_int [(.t 23),(.t 28)],pA 30 19 29]
 [])
 (.cond (.t 30)
 .skip
 (.exit 2)))
 (.seq (.block 3 (.draw [mT 33 0,mT 34 7,mT 35 0,mT 36 7,bN 37 .sub (.t 36) (cI 1),mT 38 0,mT 39 7,bN 40 .sub (.t 39) (cI 1),iA 41 1 38 40,l1 42 41,mT 43 0,mT 44 7,
 iA 45 1 43 44,l1 46 45,iA 47 1 33 34,sT 1 47 42,iA 48 1 35 37,sT 1 48 46]
 []))
 (.ops [mT 31 7,bN 32 .sub (.t 31) (cI 1),mT 7 32])))))))
 (.ops [mT 13 6,bN 14 .add (.t 13) (cI 1),mT 6 14])))))) }
def C.slices_heapSortOrdered_int : LFunc := { np := 3,res := [],keep := false,body :=
 (.seq (.ops [mT 11 1,mT 6 11])
 (.seq (.ops [mC 7 (.int .i64 0)])
 (.seq (.ops [mT 12 2,mT 13 1,bN 14 .sub (.t 12) (.t 13),mT 8 14])
 (.seq (.seq (.ops [mT 15 8,bN 16 .sub (.t 15) (cI 1),bN 17 .quo (.t 16) (cI 2),mT 9 17])
 (.block 0 (.loop (.seq (.seq (.ops [mT 18 9,bN 19 .geq (.t 18) (cI 0)])
 (.cond (.t 19)
 .skip
 (.exit 0)))
 (.seq (.block 1 (.ops [mT 22 0,mT 23 9,mT 24 8,mT 25 6,cL 26 F.slices_siftDownOrdered_int [(.t 22),(.t 23),(.t 24),(.t 25)]]))
 (.ops [mT 20 9,bN 21 .sub (.t 20) (cI 1),mT 9 21]))))))
 (.seq (.ops [mT 27 8,bN 28 .sub (.t 27) (cI 1),mT 10 28])
 (.block 2 (.loop (.seq (.seq (.ops [mT 29 10,bN 30 .geq (.t 29) (cI 0)])
 (.cond (.t 30)
 .skip
 (.exit 2)))
 (.seq (.block 3 (.seq (.draw [mT 33 0,mT 34 6,mT 35 0,mT 36 6,mT 37 10,bN 38 .add (.t 36) (.t 37),mT 39 0,mT 40 6,mT 41 10,bN 42 .add (.t 40) (.t 41),iA 43 1 39 42,
 l1 44 43,mT 45 0,mT 46 6,iA 47 1 45 46,l1 48 47,iA 49 1 33 34,sT 1 49 44,iA 50 1 35 38,sT 1 50 48]
 [])
 (.ops [mT 51 0,mT 52 7,mT 53 10,mT 54 6,cL 55 F.slices_siftDownOrdered_int [(.t 51),(.t 52),(.t 53),(.t 54)]])))
 (.ops [mT 31 10,bN 32 .sub (.t 31) (cI 1),mT 10 32])))))))))) }
def C.slices_breakPatternsOrdered_int : LFunc := { np := 3,res := [],keep := false,body :=
 (.seq (.ops [mT 11 2,mT 12 1,bN 13 .sub (.t 11) (.t 12),mT 6 13])
 (.seq (.ops [mT 14 6,bN 15 .geq (.t 14) (cI 8)])
 (.cond (.t 15)
 (.seq (.ops [mT 16 6,o 17 (.wrap .u64 (.t 16)),o 7 (.alloc [(.int .u64 0)]),sT 1 7 17])
 (.seq (.ops [mT 18 6,cL 19 F.slices_nextPowerOfTwo [(.t 18)],mT 8 19])
 (.seq (.ops [mT 20 1,mT 21 6,bN 22 .quo (.t 21) (cI 4),bN 23 .mul (.t 22) (cI 2),bN 24 .add (.t 20) (.t 23),bN 25 .sub (.t 24) (cI 1),mT 9 25])
 (.block 0 (.loop (.seq (.seq (.ops [mT 26 9,mT 27 1,mT 28 6,bN 29 .quo (.t 28) (cI 4),bN 30 .mul (.t 29) (cI 2),bN 31 .add (.t 27) (.t 30),bN 32 .add (.t 31) (cI 1),
 bN 33 .leq (.t 26) (.t 32)])
 (.cond (.t 33)
 .skip
 (.exit 0)))
 (.seq (.block 1 (.seq (.ops [cL 36 F.slices_xorshift_Next [(.t 7)],mT 37 8,bN 38 .sub (.t 37) (.c (.int .u64 1)),bN 39 .and (.t 36) (.t 38),o 40 (.wrap .i64 (.t 39)),
 mT 10 40])
 (.seq (.seq (.ops [mT 41 10,mT 42 6,bN 43 .geq (.t 41) (.t 42)])
 (.cond (.t 43)
 (.ops [mT 44 10,mT 45 6,bN 46 .sub (.t 44) (.t 45),mT 10 46])
 .skip))
 (.draw [mT 47 0,mT 48 9,mT 49 0,mT 50 1,mT 51 10,bN 52 .add (.t 50) (.t 51),mT 53 0,mT 54 1,mT 55 10,bN 56 .add (.t 54) (.t 55),iA 57 1 53 56,l1 58 57,mT 59 0,mT 60 9,
 iA 61 1 59 60,l1 62 61,iA 63 1 47 48,sT 1 63 58,iA 64 1 49 52,sT 1 64 62]
 []))))
 (.ops [mT 34 9,bN 35 .add (.t 34) (cI 1),mT 9 35]))))))))
 .skip))) }
def C.slices_choosePivotOrdered_int : LFunc := { np := 3,res := [.tmp 6,.tmp 7],keep := false,body :=
 (.seq (.ops [mC 6 (.int .i64 0),mC 7 (.int .i64 0)])
 (.seq (.ops [mT 13 2,mT 14 1,bN 15 .sub (.t 13) (.t 14),mT 8 15])
 (.seq (.ops [o 9 (.alloc [(.int .i64 0)])])
 (.seq (.ops [mT 16 1,mT 17 8,bN 18 .quo (.t 17) (cI 4),bN 19 .mul (.t 18) (cI 1),bN 20 .add (.t 16) (.t 19),mT 10 20])
 (.seq (.ops [mT 21 1,mT 22 8,bN 23 .quo (.t 22) (cI 4),bN 24 .mul (.t 23) (cI 2),bN 25 .add (.t 21) (.t 24),mT 11 25])
 (.seq (.ops [mT 26 1,mT 27 8,bN 28 .quo (.t 27) (cI 4),bN 29 .mul (.t 28) (cI 3),bN 30 .add (.t 26) (.t 29),mT 12 30])
 (.seq (.seq (.ops [mT 31 8,bN 32 .geq (.t 31) (cI 8)])
 (.cond (.t 32)
 (.seq (.seq (.ops [mT 33 8,bN 34 .geq (.t 33) (cI 50)])
 (.cond (.t 34)
 (.seq (.ops [mT 35 0,mT 36 10,cL 37 F.slices_medianAdjacentOrdered_int [(.t 35),(.t 36),(.t 9)],mT 10 37])
 (.seq (.ops [mT 38 0,mT 39 11,cL 40 F.slices_medianAdjacentOrdered_int [(.t 38),(.t 39),(.t 9)],mT 11 40])
 (.ops [mT 41 0,mT 42 12,cL 43 F.slices_medianAdjacentOrdered_int [(.t 41),(.t 42),(.t 9)],mT 12 43])))
 .skip))
 (.ops [mT 44 0,mT 45 10,mT 46 11,mT 47 12,cL 48 F.slices_medianOrdered_int [(.t 44),(.t 45),(.t 46),(.t 47),(.t 9)],mT 11 48]))
 .skip))
 (.seq (.ops [l1 49 9])
 (.block 0 (.seq (.ops [bN 52 .eql (.t 49) (cI 0),mT 51 52])
 (.cond (.t 51)
 (.seq (.ops [mT 53 11,mT 6 53,mC 7 (.int .i64 1)])
 .ret)
 (.seq (.ops [bN 55 .eql (.t 49) (cI 12),mT 54 55])
 (.cond (.t 54)
 (.seq (.ops [mT 56 11,mT 6 56,mC 7 (.int .i64 2)])
 .ret)
 (.seq (.ops [mT 50 11,mT 6 50,mC 7 (.int .i64 0)])
 .ret)))))))))))))) }
def C.slices_reverseRangeOrdered_int : LFunc := { np := 3,res := [],keep := false,body :=
 (.seq (.ops [mT 8 1,mT 6 8])
 (.seq (.ops [mT 9 2,bN 10 .sub (.t 9) (cI 1),mT 7 10])
 (.block 0 (.loop (.seq (.seq (.ops [mT 11 6,mT 12 7,bN 13 .lss (.t 11) (.t 12)])
 (.cond (.t 13)
 .skip
 (.exit 0)))
 (.block 1 (.seq (.draw [mT 14 0,mT 15 6,mT 16 0,mT 17 7,mT 18 0,mT 19 7,iA 20 1 18 19,l1 21 20,mT 22 0,mT 23 6,iA 24 1 22 23,l1 25 24,iA 26 1 14 15,sT 1 26 21,
 iA 27 1 16 17,sT 1 27 25]
 [])
 (.seq (.ops [mT 28 6,bN 29 .add (.t 28) (cI 1),mT 6 29])
 (.ops [mT 30 7,bN 31 .sub (.t 30) (cI 1),mT 7 31]))))))))) }
def C.slices_partialInsertionSortOrdered_int : LFunc := { np := 3,res := [.tmp 6],keep := false,body :=
 (.seq (.ops [mC 6 (.bool false)])
 (.seq (.ops [mT 11 1,bN 12 .add (.t 11) (cI 1),mT 7 12])
 (.seq (.seq (.ops [mC 8 (.int .i64 0)])
 (.block 0 (.loop (.seq (.seq (.ops [mT 13 8,bN 14 .lss (.t 13) (cI 5)])
 (.cond (.t 14)
 .skip
 (.exit 0)))
 (.seq (.block 1 (.seq (.block 2 (.loop (.seq (.seq (.draw [mT 17 7,mT 18 2,bN 19 .lss (.t 17) (.t 18),mT 20 19,gM 21 20 true 0,gM 22 20 true 7,
 og 23 20 true (.ia 1 (.t 21) (.t 22)),g1 24 20 true 23,gM 25 20 true 0,gM 26 20 true 7,gB 27 20 true .sub (.t 26) (cI 1),og 28 20 true (.ia 1 (.t 25) (.t 27)),
 g1 29 20 true 28,gL 30 20 true F.cmp_Less_int [(.t 24),(.t 29)],og 31 20 true (.un .not (.t 30)),pA 32 20 31]
 [])
 (.cond (.t 32)
 .skip
 (.exit 2)))
 (.block 3 (.ops [mT 33 7,bN 34 .add (.t 33) (cI 1),mT 7 34])))))
 (.seq (.seq (.ops [mT 35 7,mT 36 2,bN 37 .eql (.t 35) (.t 36)])
 (.cond (.t 37)
 (.seq (.ops [mC 6 (.bool true)])
 .ret)
 .skip))
 (.seq (.seq (.ops [mT 38 2,mT 39 1,bN 40 .sub (.t 38) (.t 39),bN 41 .lss (.t 40) (cI 50)])
 (.cond (.t 41)
 (.seq (.ops [mC 6 (.bool false)])
 .ret)
 .skip))
 (.seq (.draw [mT 42 0,mT 43 7,mT 44 0,mT 45 7,bN 46 .sub (.t 45) (cI 1),mT 47 0,mT 48 7,bN 49 .sub (.t 48) (cI 1),iA 50 1 47 49,l1 51 50,mT 52 0,mT 53 7,iA 54 1 52 53,
 l1 55 54,iA 56 1 42 43,sT 1 56 51,iA 57 1 44 46,sT 1 57 55]
 [])
 (.seq (.seq (.ops [mT 58 7,mT 59 1,bN 60 .sub (.t 58) (.t 59),bN 61 .geq (.t 60) (cI 2)])
 (.cond (.t 61)
 (.seq (.ops [mT 62 7,bN 63 .sub (.t 62) (cI 1),mT 9 63])
 (.block 4 (.loop (.seq (.seq (.ops [mT 64 9,bN 65 .geq (.t 64) (cI 1)])
 (.cond (.t 65)
 .skip
 (.exit 4)))
 (.seq (.block 5 (.seq (.seq (.draw [mT 68 0,mT 69 9,iA 70 1 68 69,l1 71 70,mT 72 0,mT 73 9,bN 74 .sub (.t 73) (cI 1),iA 75 1 72 74,l1 76 75,
 cL 77 F.cmp_Less_int [(.t 71),(.t 76)],nT 78 77]
 [])
 (.cond (.t 78)
 (.exit 4)
 .skip))
 (.draw [mT 79 0,mT 80 9,mT 81 0,mT 82 9,bN 83 .sub (.t 82) (cI 1),mT 84 0,mT 85 9,bN 86 .sub (.t 85) (cI 1),iA 87 1 84 86,l1 88 87,mT 89 0,mT 90 9,iA 91 1 89 90,
 l1 92 91,iA 93 1 79 80,sT 1 93 88,iA 94 1 81 83,sT 1 94 92]
 [])))
 (.ops [mT 66 9,bN 67 .sub (.t 66) (cI 1),mT 9 67]))))))
 .skip))
 (.seq (.ops [mT 95 2,mT 96 7,bN 97 .sub (.t 95) (.t 96),bN 98 .geq (.t 97) (cI 2)])
 (.cond (.t 98)
 (.seq (.ops [mT 99 7,bN 100 .add (.t 99) (cI 1),mT 10 100])
 (.block 6 (.loop (.seq (.seq (.ops [mT 101 10,mT 102 2,bN 103 .lss (.t 101) (.t 102)])
 (.cond (.t 103)
 .skip
 (.exit 6)))
 (.seq (.block 7 (.seq (.seq (.draw [mT 106 0,mT 107 10,iA 108 1 106 107,l1 109 108,mT 110 0,mT 111 10,bN 112 .sub (.t 111) (cI 1),iA 113 1 110 112,l1 114 113,
 cL 115 F.cmp_Less_int [(.t 109),(.t 114)],nT 116 115]
 [])
 (.cond (.t 116)
 (.exit 6)
 .skip))
 (.draw [mT 117 0,mT 118 10,mT 119 0,mT 120 10,bN 121 .sub (.t 120) (cI 1),mT 122 0,mT 123 10,bN 124 .sub (.t 123) (cI 1),iA 125 1 122 124,l1 126 125,mT 127 0,
 mT 128 10,iA 129 1 127 128,l1 130 129,iA 131 1 117 118,sT 1 131 126,iA 132 1 119 121,sT 1 132 130]
 [])))
 (.ops [mT 104 10,bN 105 .add (.t 104) (cI 1),mT 10 105]))))))
 .skip))))))))
 (.ops [mT 15 8,bN 16 .add (.t 15) (cI 1),mT 8 16]))))))
 (.seq (.ops [mC 6 (.bool false)])
 .ret)))) }
def C.cmp_Less_int : LFunc := { np := 2,res := [.tmp 4],keep := false,body :=
 (.seq (.ops [mC 4 (.bool false)])
 (.seq (.ops [mT 5 0,cL 6 F.cmp_isNaN_int [(.t 5)],mT 7 6,gM 8 7 true 1,gL 9 7 true F.cmp_isNaN_int [(.t 8)],og 10 7 true (.un .not (.t 9)),pA 11 7 10,mT 12 11,
 gM 13 12 false 0,gM 14 12 false 1,gB 15 12 false .lss (.t 13) (.t 14),pO 16 12 15,mT 4 16])
 .ret)) }
def C.slices_partitionEqualOrdered_int : LFunc := { np := 4,res := [.tmp 8],keep := false,body :=
 (.seq (.ops [mC 8 (.int .i64 0)])
 (.seq (.draw [mT 11 0,mT 12 1,mT 13 0,mT 14 3,mT 15 0,mT 16 3,iA 17 1 15 16,l1 18 17,mT 19 0,mT 20 1,iA 21 1 19 20,l1 22 21,iA 23 1 11 12,sT 1 23 18,iA 24 1 13 14,
 sT 1 24 22]
 [])
 (.seq (.ops [mT 25 1,bN 26 .add (.t 25) (cI 1),mT 27 2,bN 28 .sub (.t 27) (cI 1),mT 9 26,mT 10 28])
 (.seq (.block 0 (.loop (.block 1 (.seq (.block 2 (.loop (.seq (.seq (.draw [mT 29 9,mT 30 10,bN 31 .leq (.t 29) (.t 30),mT 32 31,gM 33 32 true 0,gM 34 32 true 1,
 og 35 32 true (.ia 1 (.t 33) (.t 34)),g1 36 32 true 35,gM 37 32 true 0,gM 38 32 true 9,og 39 32 true (.ia 1 (.t 37) (.t 38)),g1 40 32 true 39,
 gL 41 32 true F.cmp_Less_int [(.t 36),(.t 40)],og 42 32 true (.un .not (.t 41)),pA 43 32 42]
 [])
 (.cond (.t 43)
 .skip
 (.exit 2)))
 (.block 3 (.ops [mT 44 9,bN 45 .add (.t 44) (cI 1),mT 9 45])))))
 (.seq (.block 4 (.loop (.seq (.seq (.draw [mT 46 9,mT 47 10,bN 48 .leq (.t 46) (.t 47),mT 49 48,gM 50 49 true 0,gM 51 49 true 1,og 52 49 true (.ia 1 (.t 50) (.t 51)),
 g1 53 49 true 52,gM 54 49 true 0,gM 55 49 true 10,og 56 49 true (.ia 1 (.t 54) (.t 55)),g1 57 49 true 56,gL 58 49 true F.cmp_Less_int [(.t 53),(.t 57)],pA 59 49 58]
 [])
 (.cond (.t 59)
 .skip
 (.exit 4)))
 (.block 5 (.ops [mT 60 10,bN 61 .sub (.t 60) (cI 1),mT 10 61])))))
 (.seq (.seq (.ops [mT 62 9,mT 63 10,bN 64 .gtr (.t 62) (.t 63)])
 (.cond (.t 64)
 (.exit 0)
 .skip))
 (.seq (.draw [mT 65 0,mT 66 9,mT 67 0,mT 68 10,mT 69 0,mT 70 10,iA 71 1 69 70,l1 72 71,mT 73 0,mT 74 9,iA 75 1 73 74,l1 76 75,iA 77 1 65 66,sT 1 77 72,iA 78 1 67 68,
 sT 1 78 76]
 [])
 (.seq (.ops [mT 79 9,bN 80 .add (.t 79) (cI 1),mT 9 80])
 (.ops [mT 81 10,bN 82 .sub (.t 81) (cI 1),mT 10 82])))))))))
 (.seq (.ops [mT 83 9,mT 8 83])
 .ret))))) }
def C.slices_partitionOrdered_int : LFunc := { np := 4,res := [.tmp 8,.tmp 9],keep := false,body :=
 (.seq (.ops [mC 8 (.int .i64 0),mC 9 (.bool false)])
 (.seq (.draw [mT 12 0,mT 13 1,mT 14 0,mT 15 3,mT 16 0,mT 17 3,iA 18 1 16 17,l1 19 18,mT 20 0,mT 21 1,iA 22 1 20 21,l1 23 22,iA 24 1 12 13,sT 1 24 19,iA 25 1 14 15,
 sT 1 25 23]
 [])
 (.seq (.ops [mT 26 1,bN 27 .add (.t 26) (cI 1),mT 28 2,bN 29 .sub (.t 28) (cI 1),mT 10 27,mT 11 29])
 (.seq (.block 0 (.loop (.seq (.seq (.draw [mT 30 10,mT 31 11,bN 32 .leq (.t 30) (.t 31),mT 33 32,gM 34 33 true 0,gM 35 33 true 10,
 og 36 33 true (.ia 1 (.t 34) (.t 35)),g1 37 33 true 36,gM 38 33 true 0,gM 39 33 true 1,og 40 33 true (.ia 1 (.t 38) (.t 39)),g1 41 33 true 40,
 gL 42 33 true F.cmp_Less_int [(.t 37),(.t 41)],pA 43 33 42]
 [])
 (.cond (.t 43)
 .skip
 (.exit 0)))
 (.block 1 (.ops [mT 44 10,bN 45 .add (.t 44) (cI 1),mT 10 45])))))
 (.seq (.block 2 (.loop (.seq (.seq (.draw [mT 46 10,mT 47 11,bN 48 .leq (.t 46) (.t 47),mT 49 48,gM 50 49 true 0,gM 51 49 true 11,
 og 52 49 true (.ia 1 (.t 50) (.t 51)),g1 53 49 true 52,gM 54 49 true 0,gM 55 49 true 1,og 56 49 true (.ia 1 (.t 54) (.t 55)),g1 57 49 true 56,
 gL 58 49 true F.cmp_Less_int [(.t 53),(.t 57)],og 59 49 true (.un .not (.t 58)),pA 60 49 59]
 [])
 (.cond (.t 60)
 .skip
 (.exit 2)))
 (.block 3 (.ops [mT 61 11,bN 62 .sub (.t 61) (cI 1),mT 11 62])))))
 (.seq (.seq (.ops [mT 63 10,mT 64 11,bN 65 .gtr (.t 63) (.t 64)])
 (.cond (.t 65)
 (.seq (.draw [mT 66 0,mT 67 11,mT 68 0,mT 69 1,mT 70 0,mT 71 1,iA 72 1 70 71,l1 73 72,mT 74 0,mT 75 11,iA 76 1 74 75,l1 77 76,iA 78 1 66 67,sT 1 78 73,iA 79 1 68 69,
 sT 1 79 77]
 [])
 (.seq (.ops [mT 80 11,mT 8 80,mC 9 (.bool true)])
 .ret))
 .skip))
 (.seq (.draw [mT 81 0,mT 82 10,mT 83 0,mT 84 11,mT 85 0,mT 86 11,iA 87 1 85 86,l1 88 87,mT 89 0,mT 90 10,iA 91 1 89 90,l1 92 91,iA 93 1 81 82,sT 1 93 88,iA 94 1 83 84,
 sT 1 94 92]
 [])
 (.seq (.ops [mT 95 10,bN 96 .add (.t 95) (cI 1),mT 10 96])
 (.seq (.ops [mT 97 11,bN 98 .sub (.t 97) (cI 1),mT 11 98])
 (.seq (.block 4 (.loop (.block 5 (.seq (.block 6 (.loop (.seq (.seq (.draw [mT 99 10,mT 100 11,bN 101 .leq (.t 99) (.t 100),mT 102 101,gM 103 102 true 0,
 gM 104 102 true 10,og 105 102 true (.ia 1 (.t 103) (.t 104)),g1 106 102 true 105,gM 107 102 true 0,gM 108 102 true 1,og 109 102 true (.ia 1 (.t 107) (.t 108)),
 g1 110 102 true 109,gL 111 102 true F.cmp_Less_int [(.t 106),(.t 110)],pA 112 102 111]
 [])
 (.cond (.t 112)
 .skip
 (.exit 6)))
 (.block 7 (.ops [mT 113 10,bN 114 .add (.t 113) (cI 1),mT 10 114])))))
 (.seq (.block 8 (.loop (.seq (.seq (.draw [mT 115 10,mT 116 11,bN 117 .leq (.t 115) (.t 116),mT 118 117,gM 119 118 true 0,gM 120 118 true 11,
 og 121 118 true (.ia 1 (.t 119) (.t 120)),g1 122 118 true 121,gM 123 118 true 0,gM 124 118 true 1,og 125 118 true (.ia 1 (.t 123) (.t 124)),g1 126 118 true 125,
 gL 127 118 true F.cmp_Less_int [(.t 122),(.t 126)],og 128 118 true (.un .not (.t 127)),pA 129 118 128]
 [])
 (.cond (.t 129)
 .skip
 (.exit 8)))
 (.block 9 (.ops [mT 130 11,bN 131 .sub (.t 130) (cI 1),mT 11 131])))))
 (.seq (.seq (.ops [mT 132 10,mT 133 11,bN 134 .gtr (.t 132) (.t 133)])
 (.cond (.t 134)
 (.exit 4)
 .skip))
 (.seq (.draw [mT 135 0,mT 136 10,mT 137 0,mT 138 11,mT 139 0,mT 140 11,iA 141 1 139 140,l1 142 141,mT 143 0,mT 144 10,iA 145 1 143 144,l1 146 145,iA 147 1 135 136,
 sT 1 147 142,iA 148 1 137 138,sT 1 148 146]
 [])
 (.seq (.ops [mT 149 10,bN 150 .add (.t 149) (cI 1),mT 10 150])
 (.ops [mT 151 11,bN 152 .sub (.t 151) (cI 1),mT 11 152])))))))))
 (.seq (.draw [mT 153 0,mT 154 11,mT 155 0,mT 156 1,mT 157 0,mT 158 1,iA 159 1 157 158,l1 160 159,mT 161 0,mT 162 11,iA 163 1 161 162,l1 164 163,iA 165 1 153 154,
 sT 1 165 160,iA 166 1 155 156,sT 1 166 164]
 [])
 (.seq (.ops [mT 167 11,mT 8 167,mC 9 (.bool false)])
 .ret)))))))))))) }
def C.math_bits_Len32 : LFunc := { np := 1,res := [.tmp 2],keep := false,body :=
 (.seq (.ops [mC 2 (.int .i64 0)])
 (.seq (.seq (.ops [mT 3 0,bN 4 .geq (.t 3) (.c (.int .u32 65536))])
 (.cond (.t 4)
 (.seq (.ops [mT 5 0,bN 6 .shr (.t 5) (.c (.int .u64 16)),mT 0 6])
 (.ops [mC 2 (.int .i64 16)]))
 .skip))
 (.seq (.seq (.ops [mT 7 0,bN 8 .geq (.t 7) (.c (.int .u32 256))])
 (.cond (.t 8)
 (.seq (.ops [mT 9 0,bN 10 .shr (.t 9) (.c (.int .u64 8)),mT 0 10])
 (.ops [mT 11 2,bN 12 .add (.t 11) (cI 8),mT 2 12]))
 .skip))
 (.seq (.ops [mT 13 2,mT 14 0,o 15 (.wrap .u8 (.t 14)),
 o 16 (.ixs (.c (.str ⟨#[0,1,2,2,3,3,3,3,4,4,4,4,4,4,4,4,5,5,5,5,5,5,5,5,5,5,5,5,5,5,5,5,6,6,6,6,6,6,6,6,6,6,6,6,6,6,6,6,6,6,6,6,6,6,6,6,6,6,6,6,6,6,6,6,7,7,7,7,7,7,7,7,7,7,7,7,7,7,7,7,7,7,7,7,7,7,7,7,7,7,7,7,7,7,7,7,7,7,7,7,7,7,7,7,7,7,7,7,7,7,7,7,7,7,7,7,7,7,7,7,7,7,7,7,7,7,7,7,8,8,8,8,8,8,8,8,8,8,8,8,8,8,8,8,8,8,8,8,8,8,8,8,8,8,8,8,8,8,8,8,8,8,8,8,8,8,8,8,8,8,8,8,8,8,8,8,8,8,8,8,8,8,8,8,8,8,8,8,8,8,8,8,8,8,8,8,8,8,8,8,8,8,8,8,8,8,8,8,8,8,8,8,8,8,8,8,8,8,8,8,8,8,8,8,8,8,8,8,8,8,8,8,8,8,8,8,8,8,8,8,8,8,8,8,8,8,8,8,8,8,8,8,8,8,8,8]⟩)) (.t 15)),
 o 17 (.wrap .i64 (.t 16)),bN 18 .add (.t 13) (.t 17),mT 2 18])
 .ret)))) }
def C.math_bits_Len64 : LFunc := { np := 1,res := [.tmp 2],keep := false,body :=
 (.seq (.ops [mC 2 (.int .i64 0)])
 (.seq (.seq (.ops [mT 3 0,bN 4 .geq (.t 3) (.c (.int .u64 4294967296))])
 (.cond (.t 4)
 (.seq (.ops [mT 5 0,bN 6 .shr (.t 5) (.c (.int .u64 32)),mT 0 6])
 (.ops [mC 2 (.int .i64 32)]))
 .skip))
 (.seq (.seq (.ops [mT 7 0,bN 8 .geq (.t 7) (.c (.int .u64 65536))])
 (.cond (.t 8)
 (.seq (.ops [mT 9 0,bN 10 .shr (.t 9) (.c (.int .u64 16)),mT 0 10])
 (.ops [mT 11 2,bN 12 .add (.t 11) (cI 16),mT 2 12]))
 .skip))
 (.seq (.seq (.ops [mT 13 0,bN 14 .geq (.t 13) (.c (.int .u64 256))])
 (.cond (.t 14)
 (.seq (.ops [mT 15 0,bN 16 .shr (.t 15) (.c (.int .u64 8)),mT 0 16])
 (.ops [mT 17 2,bN 18 .add (.t 17) (cI 8),mT 2 18]))
 .skip))
 (.seq (.ops [mT 19 2,mT 20 0,o 21 (.wrap .u8 (.t 20)),
 o 22 (.ixs (.c (.str ⟨#[0,1,2,2,3,3,3,3,4,4,4,4,4,4,4,4,5,5,5,5,5,5,5,5,5,5,5,5,5,5,5,5,6,6,6,6,6,6,6,6,6,6,6,6,6,6,6,6,6,6,6,6,6,6,6,6,6,6,6,6,6,6,6,6,7,7,7,7,7,7,7,7,7,7,7,7,7,7,7,7,7,7,7,7,7,7,7,7,7,7,7,7,7,7,7,7,7,7,7,7,7,7,7,7,7,7,7,7,7,7,7,7,7,7,7,7,7,7,7,7,7,7,7,7,7,7,7,7,8,8,8,8,8,8,8,8,8,8,8,8,8,8,8,8,8,8,8,8,8,8,8,8,8,8,8,8,8,8,8,8,8,8,8,8,8,8,8,8,8,8,8,8,8,8,8,8,8,8,8,8,8,8,8,8,8,8,8,8,8,8,8,8,8,8,8,8,8,8,8,8,8,8,8,8,8,8,8,8,8,8,8,8,8,8,8,8,8,8,8,8,8,8,8,8,8,8,8,8,8,8,8,8,8,8,8,8,8,8,8,8,8,8,8,8,8,8,8,8,8,8,8,8,8,8,8,8]⟩)) (.t 21)),
 o 23 (.wrap .i64 (.t 22)),bN 24 .add (.t 19) (.t 23),mT 2 24])
 .ret))))) }
def C.slices_insertionSortCmpFunc_int : LFunc := { np := 4,res := [],keep := false,body :=
 (.seq (.ops [mT 10 1,bN 11 .add (.t 10) (cI 1),mT 8 11])
 (.block 0 (.loop (.seq (.seq (.ops [mT 12 8,mT 13 2,bN 14 .lss (.t 12) (.t 13)])
 (.cond (.t 14)
 .skip
 (.exit 0)))
 (.seq (.block 1 (.seq (.ops [mT 17 8,mT 9 17])
 (.block 2 (.loop (.seq (.seq (.draw [mT 18 9,mT 19 1,bN 20 .gtr (.t 18) (.t 19),mT 21 20,gM 22 21 true 3,gM 23 21 true 0,gM 24 21 true 9,
 og 25 21 true (.ia 1 (.t 23) (.t 24)),g1 26 21 true 25,gM 27 21 true 0,gM 28 21 true 9,gB 29 21 true .sub (.t 28) (cI 1),og 30 21 true (.ia 1 (.t 27) (.t 29)),
 g1 31 21 true 30,og 32 21 true (.call (.t 22) [(.t 26),(.t 31)]),gB 33 21 true .lss (.t 32) (cI 0),pA 34 21 33]
 [])
 (.cond (.t 34)
 .skip
 (.exit 2)))
 (.seq (.block 3 (.draw [mT 37 0,mT 38 9,mT 39 0,mT 40 9,bN 41 .sub (.t 40) (cI 1),mT 42 0,mT 43 9,bN 44 .sub (.t 43) (cI 1),iA 45 1 42 44,l1 46 45,mT 47 0,mT 48 9,
 iA 49 1 47 48,l1 50 49,iA 51 1 37 38,sT 1 51 46,iA 52 1 39 41,sT 1 52 50]
 []))
 (.ops [mT 35 9,bN 36 .sub (.t 35) (cI 1),mT 9 36])))))))
 (.ops [mT 15 8,bN 16 .add (.t 15) (cI 1),mT 8 16])))))) }
def C.slices_symMergeCmpFunc_int : LFunc := { np := 5,res := [],keep := false,body :=
 (.seq (.seq (.ops [mT 25 2,mT 26 1,bN 27 .sub (.t 25) (.t 26),bN 28 .eql (.t 27) (cI 1)])
 (.cond (.t 28)
 (.seq (.ops [mT 29 2,mT 10 29])
 (.seq (.ops [mT 30 3,mT 11 30])
 (.seq (.block 0 (.loop (.seq (.seq (.ops [mT 31 10,mT 32 11,bN 33 .lss (.t 31) (.t 32)])
 (.cond (.t 33)
 .skip
 (.exit 0)))
 (.block 1 (.seq (.ops [mT 34 10,mT 35 11,bN 36 .add (.t 34) (.t 35),o 37 (.wrap .u64 (.t 36)),bN 38 .shr (.t 37) (.c (.int .u64 1)),o 39 (.wrap .i64 (.t 38)),
 mT 12 39])
 (.seq (.draw [mT 40 4,mT 41 0,mT 42 12,iA 43 1 41 42,l1 44 43,mT 45 0,mT 46 1,iA 47 1 45 46,l1 48 47,o 49 (.call (.t 40) [(.t 44),(.t 48)]),bN 50 .lss (.t 49) (cI 0)]
 [])
 (.cond (.t 50)
 (.ops [mT 51 12,bN 52 .add (.t 51) (cI 1),mT 10 52])
 (.ops [mT 53 12,mT 11 53]))))))))
 (.seq (.seq (.ops [mT 54 1,mT 13 54])
 (.block 2 (.loop (.seq (.seq (.ops [mT 55 13,mT 56 10,bN 57 .sub (.t 56) (cI 1),bN 58 .lss (.t 55) (.t 57)])
 (.cond (.t 58)
 .skip
 (.exit 2)))
 (.seq (.block 3 (.draw [mT 61 0,mT 62 13,mT 63 0,mT 64 13,bN 65 .add (.t 64) (cI 1),mT 66 0,mT 67 13,bN 68 .add (.t 67) (cI 1),iA 69 1 66 68,l1 70 69,mT 71 0,mT 72 13,
 iA 73 1 71 72,l1 74 73,iA 75 1 61 62,sT 1 75 70,iA 76 1 63 65,sT 1 76 74]
 []))
 (.ops [mT 59 13,bN 60 .add (.t 59) (cI 1),mT 13 60]))))))
 .ret))))
 .skip))
 (.seq (.seq (.ops [mT 77 3,mT 78 2,bN 79 .sub (.t 77) (.t 78),bN 80 .eql (.t 79) (cI 1)])
 (.cond (.t 80)
 (.seq (.ops [mT 81 1,mT 14 81])
 (.seq (.ops [mT 82 2,mT 15 82])
 (.seq (.block 4 (.loop (.seq (.seq (.ops [mT 83 14,mT 84 15,bN 85 .lss (.t 83) (.t 84)])
 (.cond (.t 85)
 .skip
 (.exit 4)))
 (.block 5 (.seq (.ops [mT 86 14,mT 87 15,bN 88 .add (.t 86) (.t 87),o 89 (.wrap .u64 (.t 88)),bN 90 .shr (.t 89) (.c (.int .u64 1)),o 91 (.wrap .i64 (.t 90)),
 mT 16 91])
 (.seq (.draw [mT 92 4,mT 93 0,mT 94 2,iA 95 1 93 94,l1 96 95,mT 97 0,mT 98 16,iA 99 1 97 98,l1 100 99,o 101 (.call (.t 92) [(.t 96),(.t 100)]),
 bN 102 .lss (.t 101) (cI 0),nT 103 102]
 [])
 (.cond (.t 103)
 (.ops [mT 104 16,bN 105 .add (.t 104) (cI 1),mT 14 105])
 (.ops [mT 106 16,mT 15 106]))))))))
 (.seq (.seq (.ops [mT 107 2,mT 17 107])
 (.block 6 (.loop (.seq (.seq (.ops [mT 108 17,mT 109 14,bN 110 .gtr (.t 108) (.t 109)])
 (.cond (.t 110)
 .skip
 (.exit 6)))
 (.seq (.block 7 (.draw [mT 113 0,mT 114 17,mT 115 0,mT 116 17,bN 117 .sub (.t 116) (cI 1),mT 118 0,mT 119 17,bN 120 .sub (.t 119) (cI 1),iA 121 1 118 120,l1 122 121,
 mT 123 0,mT 124 17,iA 125 1 123 124,l1 126 125,iA 127 1 113 114,sT 1 127 122,iA 128 1 115 117,sT 1 128 126]
 []))
 (.ops [mT 111 17,bN 112 .sub (.t 111) (cI 1),mT 17 112]))))))
 .ret))))
 .skip))
 (.seq (.ops [mT 129 1,mT 130 3,bN 131 .add (.t 129) (.t 130),o 132 (.wrap .u64 (.t 131)),bN 133 .shr (.t 132) (.c (.int .u64 1)),o 134 (.wrap .i64 (.t 133)),
 mT 18 134])
 (.seq (.ops [mT 135 18,mT 136 2,bN 137 .add (.t 135) (.t 136),mT 19 137])
 (.seq (.ops [mC 20 (.int .i64 0),mC 21 (.int .i64 0)])
 (.seq (.seq (.ops [mT 138 2,mT 139 18,bN 140 .gtr (.t 138) (.t 139)])
 (.cond (.t 140)
 (.seq (.ops [mT 141 19,mT 142 3,bN 143 .sub (.t 141) (.t 142),mT 20 143])
 (.ops [mT 144 18,mT 21 144]))
 (.seq (.ops [mT 145 1,mT 20 145])
 (.ops [mT 146 2,mT 21 146]))))
 (.seq (.ops [mT 147 19,bN 148 .sub (.t 147) (cI 1),mT 22 148])
 (.seq (.block 8 (.loop (.seq (.seq (.ops [mT 149 20,mT 150 21,bN 151 .lss (.t 149) (.t 150)])
 (.cond (.t 151)
 .skip
 (.exit 8)))
 (.block 9 (.seq (.ops [mT 152 20,mT 153 21,bN 154 .add (.t 152) (.t 153),o 155 (.wrap .u64 (.t 154)),bN 156 .shr (.t 155) (.c (.int .u64 1)),
 o 157 (.wrap .i64 (.t 156)),mT 23 157])
 (.seq (.draw [mT 158 4,mT 159 0,mT 160 22,mT 161 23,bN 162 .sub (.t 160) (.t 161),iA 163 1 159 162,l1 164 163,mT 165 0,mT 166 23,iA 167 1 165 166,l1 168 167,
 o 169 (.call (.t 158) [(.t 164),(.t 168)]),bN 170 .lss (.t 169) (cI 0),nT 171 170]
 [])
 (.cond (.t 171)
 (.ops [mT 172 23,bN 173 .add (.t 172) (cI 1),mT 20 173])
 (.ops [mT 174 23,mT 21 174]))))))))
 (.seq (.ops [mT 175 19,mT 176 20,bN 177 .sub (.t 175) (.t 176),mT 24 177])
 (.seq (.seq (.ops [mT 178 20,mT 179 2,bN 180 .lss (.t 178) (.t 179),mT 181 180,gM 182 181 true 2,gM 183 181 true 24,gB 184 181 true .lss (.t 182) (.t 183),
 pA 185 181 184])
 (.cond (.t 185)
 (.ops [mT 186 0,mT 187 20,mT 188 2,mT 189 24,mT 190 4,o 191 (.icall (.f F.slices_rotateCmpFunc_int) [(.t 186),(.t 187),(.t 188),(.t 189),(.t 190)])])
 .skip))
 (.seq (.seq (.ops [mT 192 1,mT 193 20,bN 194 .lss (.t 192) (.t 193),mT 195 194,gM 196 195 true 20,gM 197 195 true 18,gB 198 195 true .lss (.t 196) (.t 197),
 pA 199 195 198])
 (.cond (.t 199)
 (.ops [mT 200 0,mT 201 1,mT 202 20,mT 203 18,mT 204 4,o 205 (.icall (.f F.slices_symMergeCmpFunc_int) [(.t 200),(.t 201),(.t 202),(.t 203),(.t 204)])])
 .skip))
 (.seq (.ops [mT 206 18,mT 207 24,bN 208 .lss (.t 206) (.t 207),mT 209 208,gM 210 209 true 24,gM 211 209 true 3,gB 212 209 true .lss (.t 210) (.t 211),pA 213 209 212])
 (.cond (.t 213)
 (.ops [mT 214 0,mT 215 18,mT 216 24,mT 217 3,mT 218 4,o 219 (.icall (.f F.slices_symMergeCmpFunc_int) [(.t 214),(.t 215),(.t 216),(.t 217),(.t 218)])])
 .skip))))))))))))) }
def C.slices_Index_s_int_int : LFunc := { np := 2,res := [.tmp 4],keep := false,body :=
 (.seq (.ops [mC 4 (.int .i64 0)])
 (.seq (.seq (.ops [mT 6 0,lN 7 6,mC 8 (.int .i64 0)])
 (.block 0 (.loop (.seq (.ops [bN 9 .lss (.t 8) (.t 7)])
 (.seq (.cond (.t 9)
 .skip
 (.exit 0))
 (.seq (.block 1 (.seq (.ops [mT 10 8,mT 5 10])
 (.seq (.ops [mT 11 1,mT 12 0,mT 13 5,iA 14 1 12 13,l1 15 14,bN 16 .eql (.t 11) (.t 15)])
 (.cond (.t 16)
 (.seq (.ops [mT 17 5,mT 4 17])
 .ret)
 .skip))))
 (.ops [bN 18 .add (.t 8) (cI 1),mT 8 18])))))))
 (.seq (.ops [mC 4 (.int .i64 (-1))])
 .ret))) }
def C.R05_same : LFunc := { np := 2,res := [.tmp 4],keep := false,body :=
 (.seq (.ops [mC 4 (.bool false)])
 (.seq (.seq (.ops [mT 6 0,lN 7 6,mT 8 1,lN 9 8,bN 10 .neq (.t 7) (.t 9)])
 (.cond (.t 10)
 (.seq (.ops [mC 4 (.bool false)])
 .ret)
 .skip))
 (.seq (.seq (.ops [mC 5 (.int .i64 0)])
 (.block 0 (.loop (.seq (.seq (.ops [mT 11 5,mT 12 0,lN 13 12,bN 14 .lss (.t 11) (.t 13)])
 (.cond (.t 14)
 .skip
 (.exit 0)))
 (.seq (.block 1 (.seq (.draw [mT 17 0,mT 18 5,iA 19 1 17 18,l1 20 19,mT 21 1,mT 22 5,iA 23 1 21 22,l1 24 23,bN 25 .neq (.t 20) (.t 24)]
 [])
 (.cond (.t 25)
 (.seq (.ops [mC 4 (.bool false)])
 .ret)
 .skip)))
 (.ops [mT 15 5,bN 16 .add (.t 15) (cI 1),mT 5 16]))))))
 (.seq (.ops [mC 4 (.bool true)])
 .ret)))) }
def C.code_in : LFunc := { np := 3,res := [.tmp 6],keep := false,body :=
 (.seq (.ops [mC 6 (.bool false)])
 (.seq (.ops [mT 7 0,mT 8 1,bN 9 .geq (.t 7) (.t 8),mT 10 9,gM 11 10 true 0,gM 12 10 true 2,gB 13 10 true .leq (.t 11) (.t 12),pA 14 10 13,mT 6 14])
 .ret)) }
def C.code_constructors : LFunc := { np := 1,res := [.tmp 2],keep := false,body :=
 (.seq (.ops [mC 2 (.bool false)])
 (.seq (.ops [o 4 (.mkmap),o 3 (.alloc [.nilm]),sT 1 3 4])
 (.seq (.ops [mT 5 0,lN 6 5,bN 7 .leq (.t 6) (cI 20),mT 8 7,gM 9 8 true 0,og 10 8 true (.mkfn F.code_constructors_c1 [] [(.t 3)]),
 gL 11 8 true F.code_all_api_BindCon [(.t 9),(.t 10)],pA 12 8 11,mT 2 12])
 .ret))) }
def C.code_Check_c1 : LFunc := { np := 2,res := [.tmp 3],keep := false,body :=
 (.seq (.ops [mC 3 (.bool false)])
 (.seq (.ops [mT 4 0,l1 5 1,bN 6 .sub (.t 5) (cI 1),cL 7 F.code_in [(.t 4),(cI 0),(.t 6)],mT 3 7])
 .ret)) }
def C.code_all_api_TermPat : LFunc := { np := 2,res := [.tmp 4],keep := false,body :=
 (.seq (.ops [bX 3 1 1,mC 4 (.bool false)])
 (.seq (.ops [mT 5 0,o 6 (.mkfn F.code_all_api_TermPat_c1 [] [(.t 3)]),cL 7 F.slices_ContainsFunc_s_api_TermPat_api_TermPat [(.t 5),(.t 6)],nT 8 7,mT 4 8])
 .ret)) }
def C.code_Check_c2 : LFunc := { np := 2,res := [.tmp 3],keep := false,body :=
 (.seq (.ops [bX 2 4 0,mC 3 (.bool false)])
 (.seq (.ops [lT 4 4 2,cL 5 F.code_few [(.t 4),(cI 12)],bN 6 .geq (.t 5) (cI 0),mT 7 6,gT 8 7 true 4 2,gF 9 7 true 4 1,g1 10 7 true 9,
 gL 11 7 true F.code_pattern [(.t 8),(.t 10)],pA 12 7 11,mT 3 12])
 .ret)) }
def C.code_few : LFunc := { np := 2,res := [.tmp 4],keep := false,body :=
 (.seq (.ops [bX 2 4 0,mC 4 (.int .i64 0)])
 (.seq (.ops [mT 7 1,bN 8 .sub (.t 7) (cI 1),mT 1 8])
 (.seq (.seq (.ops [fA 9 3 2,l1 10 9,lN 11 10,mC 12 (.int .i64 0)])
 (.block 0 (.loop (.seq (.ops [bN 13 .lss (.t 12) (.t 11)])
 (.seq (.cond (.t 13)
 .skip
 (.exit 0))
 (.seq (.block 1 (.seq (.ops [iA 14 4 10 12,lT 15 4 14,o 6 (.alloc [(.int .i64 0),(.int .i64 0),(.str ⟨#[]⟩),(.cl [])]),sT 4 6 15])
 (.seq (.seq (.ops [mT 16 1,bN 17 .lss (.t 16) (cI 0)])
 (.cond (.t 17)
 (.exit 0)
 .skip))
 (.ops [lT 18 4 6,mT 19 1,cL 20 F.code_few [(.t 18),(.t 19)],mT 1 20]))))
 (.ops [bN 21 .add (.t 12) (cI 1),mT 12 21])))))))
 (.seq (.ops [mT 22 1,mT 4 22])
 .ret)))) }
def C.code_pattern : LFunc := { np := 2,res := [.tmp 4],keep := false,body :=
 (.seq (.ops [bX 2 4 0,bX 3 1 1,mC 4 (.bool false)])
 (.seq (.ops [mC 5 (.int .i64 0)])
 (.seq (.seq (.ops [fA 6 0 2,l1 7 6])
 (.block 0 (.seq (.seq (.ops [bN 9 .eql (.t 7) (cI 1),mT 8 9])
 (.cond (.t 8)
 .skip
 (.seq (.ops [bN 10 .eql (.t 7) (cI 2),mT 8 10])
 (.cond (.t 8)
 .skip
 (.ops [bN 11 .eql (.t 7) (cI 5),mT 8 11])))))
 (.cond (.t 8)
 (.seq (.ops [fA 12 1 2,l1 13 12,bN 14 .neq (.t 13) (cI 0)])
 (.cond (.t 14)
 (.seq (.ops [mC 4 (.bool false)])
 .ret)
 .skip))
 (.seq (.ops [bN 16 .eql (.t 7) (cI 3),mT 15 16])
 (.cond (.t 15)
 (.seq (.ops [fA 17 1 2,l1 18 17,cL 19 F.code_in [(.t 18),(cI (-1000000000)),(cI 1000000000)],nT 20 19])
 (.cond (.t 20)
 (.seq (.ops [mC 4 (.bool false)])
 .ret)
 .skip))
 (.seq (.ops [bN 22 .eql (.t 7) (cI 4),mT 21 22])
 (.cond (.t 21)
 (.seq (.ops [fA 23 1 2,l1 24 23,cL 25 F.code_in [(.t 24),(cI 0),(cI 1)],nT 26 25])
 (.cond (.t 26)
 (.seq (.ops [mC 4 (.bool false)])
 .ret)
 .skip))
 (.seq (.ops [bN 28 .eql (.t 7) (cI 6),mT 27 28])
 (.cond (.t 27)
 (.seq (.seq (.ops [fA 29 1 2,l1 30 29,l1 31 3,lN 32 31,bN 33 .sub (.t 32) (cI 1),cL 34 F.code_in [(.t 30),(cI 0),(.t 33)],nT 35 34])
 (.cond (.t 35)
 (.seq (.ops [mC 4 (.bool false)])
 .ret)
 .skip))
 (.ops [l1 36 3,fA 37 1 2,l1 38 37,iA 39 2 36 38,fA 40 1 39,l1 41 40,mT 5 41]))
 (.seq (.ops [mC 4 (.bool false)])
 .ret)))))))))))
 (.seq (.ops [fA 42 2 2,l1 43 42,o 44 (.bin .eql .str (.t 43) (.c (.str ⟨#[]⟩))),mT 45 44,gF 46 45 true 3 2,g1 47 45 true 46,gN 48 45 true 47,gM 49 45 true 5,
 gB 50 45 true .eql (.t 48) (.t 49),pA 51 45 50,mT 52 51,gF 53 52 true 3 2,g1 54 52 true 53,og 55 52 true (.mkfn F.code_pattern_c1 [] [(.t 3)]),
 gL 56 52 true F.code_all_api_TermPat [(.t 54),(.t 55)],pA 57 52 56,mT 4 57])
 .ret)))) }
def C.code_all_api_CodeIns : LFunc := { np := 2,res := [.tmp 4],keep := false,body :=
 (.seq (.ops [bX 3 1 1,mC 4 (.bool false)])
 (.seq (.ops [mT 5 0,o 6 (.mkfn F.code_all_api_CodeIns_c1 [] [(.t 3)]),cL 7 F.slices_ContainsFunc_s_api_CodeIns_api_CodeIns [(.t 5),(.t 6)],nT 8 7,mT 4 8])
 .ret)) }
def C.code_Check_c3 : LFunc := { np := 2,res := [.tmp 3],keep := false,body :=
 (.seq (.ops [bX 2 3 0,mC 3 (.bool false)])
 (.seq (.ops [lT 8 5 1,fA 9 0 2,l1 10 9,cL 11 F.code_fields [(.t 8),(.t 10)],mT 7 11,o 12 (.ext 0 (.t 7)),o 13 (.ext 1 (.t 7)),o 14 (.ext 2 (.t 7)),
 o 4 (.alloc [(.int .i64 0),(.int .i64 0),(.bool false)]),o 5 (.alloc [(.int .i64 0),(.int .i64 0),(.bool false)]),sT 3 4 12,sT 3 5 13,mT 6 14])
 (.seq (.ops [mT 15 6,mT 16 15,gF 17 16 true 1 2,g1 18 16 true 17,gF 19 16 true 0 4,g1 20 16 true 19,gF 21 16 true 1 4,g1 22 16 true 21,
 gL 23 16 true F.code_in [(.t 18),(.t 20),(.t 22)],pA 24 16 23,mT 25 24,gF 26 25 true 2 2,g1 27 25 true 26,gF 28 25 true 0 5,g1 29 25 true 28,gF 30 25 true 1 5,
 g1 31 25 true 30,gL 32 25 true F.code_in [(.t 27),(.t 29),(.t 31)],pA 33 25 32,mT 3 33])
 .ret))) }
def C.code_fields : LFunc := { np := 2,res := [.cell 4 true 3,.cell 5 true 3,.tmp 6],keep := false,body :=
 (.seq (.ops [bX 2 5 0,o 4 (.alloc [(.int .i64 0),(.int .i64 0),(.bool false)]),o 5 (.alloc [(.int .i64 0),(.int .i64 0),(.bool false)]),mC 6 (.bool false)])
 (.seq (.ops [fA 8 0 2,l1 9 8,lN 10 9,bN 11 .sub (.t 10) (cI 1),o 12 (.build [(.int .i64 0),(.int .i64 0),(.bool false)] [(0,1,(cI 0)),(1,1,(.t 11)),(2,1,(cB true))]),
 o 7 (.alloc [(.int .i64 0),(.int .i64 0),(.bool false)]),sT 3 7 12])
 (.seq (.seq (.ops [mT 13 1])
 (.block 0 (.seq (.ops [bN 15 .eql (.t 13) (cI 1),mT 14 15])
 (.cond (.t 14)
 (.ops [o 16 (.build [(.int .i64 0),(.int .i64 0),(.bool false)] [(0,1,(cI (-1000000000))),(1,1,(cI 1000000000)),(2,1,(cB true))]),sT 3 4 16])
 (.seq (.ops [bN 18 .eql (.t 13) (cI 2),mT 17 18])
 (.cond (.t 17)
 (.ops [o 19 (.build [(.int .i64 0),(.int .i64 0),(.bool false)] [(0,1,(cI 0)),(1,1,(cI 1)),(2,1,(cB true))]),sT 3 4 19])
 (.seq (.ops [bN 21 .eql (.t 13) (cI 4),mT 20 21])
 (.cond (.t 20)
 (.ops [o 22 (.build [(.int .i64 0),(.int .i64 0),(.bool false)] [(0,1,(cI 0)),(1,1,(cI 29)),(2,1,(cB true))]),sT 3 4 22])
 (.seq (.ops [bN 24 .eql (.t 13) (cI 5),mT 23 24])
 (.cond (.t 23)
 (.ops [fA 25 2 2,l1 26 25,lN 27 26,bN 28 .sub (.t 27) (cI 1),o 29 (.build [(.int .i64 0),(.int .i64 0),(.bool false)] [(0,1,(cI 0)),(1,1,(.t 28)),(2,1,(cB true))]),
 sT 3 4 29])
 (.seq (.seq (.ops [bN 31 .eql (.t 13) (cI 6),mT 30 31])
 (.cond (.t 30)
 .skip
 (.seq (.ops [bN 32 .eql (.t 13) (cI 11),mT 30 32])
 (.cond (.t 30)
 .skip
 (.seq (.ops [bN 33 .eql (.t 13) (cI 12),mT 30 33])
 (.cond (.t 30)
 .skip
 (.seq (.ops [bN 34 .eql (.t 13) (cI 31),mT 30 34])
 (.cond (.t 30)
 .skip
 (.ops [bN 35 .eql (.t 13) (cI 32),mT 30 35])))))))))
 (.cond (.t 30)
 (.ops [lT 36 3 7,sT 3 4 36])
 (.seq (.ops [bN 38 .eql (.t 13) (cI 10),mT 37 38])
 (.cond (.t 37)
 (.ops [o 39 (.build [(.int .i64 0),(.int .i64 0),(.bool false)] [(0,1,(cI 1)),(1,1,(cI 30)),(2,1,(cB true))]),sT 3 4 39])
 (.seq (.ops [bN 41 .eql (.t 13) (cI 18),mT 40 41])
 (.cond (.t 40)
 (.ops [fA 42 4 2,l1 43 42,lN 44 43,bN 45 .sub (.t 44) (cI 1),o 46 (.build [(.int .i64 0),(.int .i64 0),(.bool false)] [(0,1,(cI 0)),(1,1,(.t 45)),(2,1,(cB true))]),
 sT 3 4 46])
 (.seq (.ops [bN 48 .eql (.t 13) (cI 19),mT 47 48])
 (.cond (.t 47)
 (.draw [fA 49 1 2,l1 50 49,lN 51 50,bN 52 .sub (.t 51) (cI 1),o 53 (.build [(.int .i64 0),(.int .i64 0),(.bool false)] [(0,1,(cI 0)),(1,1,(.t 52)),(2,1,(cB true))]),
 lT 54 3 7,sT 3 4 53,sT 3 5 54]
 [(5,6)])
 (.seq (.ops [bN 56 .eql (.t 13) (cI 29),mT 55 56])
 (.cond (.t 55)
 (.ops [o 57 (.build [(.int .i64 0),(.int .i64 0),(.bool false)] [(0,1,(cI 0)),(1,1,(cI 3)),(2,1,(cB true))]),sT 3 4 57])
 .skip))))))))))))))))))))
 (.seq (.draw [lT 58 3 4,lT 59 3 5,mT 60 1,cL 61 F.code_in [(.t 60),(cI 1),(cI 34)],sT 3 4 58,sT 3 5 59,mT 6 61]
 [(0,3),(1,3),(1,4)])
 .ret)))) }
def C.code_all_int_c1 : LFunc := { np := 2,res := [.tmp 3],keep := false,body :=
 (.seq (.ops [mC 3 (.bool false)])
 (.seq (.ops [l1 4 1,mT 5 0,o 6 (.icall (.t 4) [(.t 5)]),nT 7 6,mT 3 7])
 .ret)) }
def C.code_follows_c1 : LFunc := { np := 5,res := [],keep := false,body :=
 (.seq (.ops [lT 10 5 1,lT 11 3 2,cL 12 F.code_grown [(.t 10),(.t 11)],mT 9 12,o 13 (.ext 0 (.t 9)),o 14 (.ext 1 (.t 9)),mT 6 13,mT 7 14])
 (.seq (.ops [fA 15 1 3,l1 16 15,mT 17 6,bN 18 .add (.t 16) (.t 17),fA 19 2 3,l1 20 19,mT 21 7,bN 22 .add (.t 20) (.t 21),cL 23 F.code_depth [(.t 18),(.t 22)],
 o 8 (.alloc [(.bool false),(.int .i64 0),(.int .i64 0)]),sT 3 8 23])
 (.seq (.seq (.ops [fA 24 0 2,l1 25 24])
 (.block 0 (.seq (.ops [bN 27 .eql (.t 25) (cI 11),mT 26 27])
 (.cond (.t 26)
 (.seq (.ops [mT 28 0,fA 29 1 2,l1 30 29,lT 31 3 8,o 32 (.icall (.t 28) [(.t 30),(.t 31)])])
 .ret)
 (.seq (.ops [bN 34 .eql (.t 25) (cI 12),mT 33 34])
 (.cond (.t 33)
 (.seq (.ops [mT 35 0,fA 36 1 2,l1 37 36,lT 38 3 8,o 39 (.icall (.t 35) [(.t 37),(.t 38)]),nT 40 39])
 (.cond (.t 40)
 .ret
 .skip))
 (.seq (.ops [bN 42 .eql (.t 25) (cI 19),mT 41 42])
 (.cond (.t 41)
 (.seq (.ops [mT 43 0,fA 44 2 2,l1 45 44,lT 46 3 3,o 47 (.icall (.t 43) [(.t 45),(.t 46)]),nT 48 47])
 (.cond (.t 48)
 .ret
 .skip))
 (.seq (.seq (.ops [bN 50 .eql (.t 25) (cI 6),mT 49 50])
 (.cond (.t 49)
 .skip
 (.ops [bN 51 .eql (.t 25) (cI 32),mT 49 51])))
 (.cond (.t 49)
 (.seq (.draw [mT 52 0,fA 53 1 2,l1 54 53,fA 55 2 3,l1 56 55,bN 57 .add (.t 56) (cI 1),cL 58 F.code_depth [(cI 0),(.t 57)],o 59 (.icall (.t 52) [(.t 54),(.t 58)]),
 nT 60 59]
 [(2,6)])
 (.cond (.t 60)
 .ret
 .skip))
 (.seq (.ops [bN 62 .eql (.t 25) (cI 31),mT 61 62])
 (.cond (.t 61)
 (.seq (.draw [mT 63 0,fA 64 1 2,l1 65 64,fA 66 2 3,l1 67 66,cL 68 F.code_depth [(cI 0),(.t 67)],o 69 (.icall (.t 63) [(.t 65),(.t 68)]),nT 70 69]
 [(2,5)])
 (.cond (.t 70)
 .ret
 .skip))
 .skip))))))))))))
 (.seq (.draw [lT 71 3 2,lT 72 5 1,lT 73 3 2,cL 74 F.code_wanted [(.t 72),(.t 73)],cL 75 F.code_ends [(.t 71),(.t 74)],nT 76 75]
 [(0,3)])
 (.cond (.t 76)
 (.ops [mT 77 0,l1 78 4,bN 79 .add (.t 78) (cI 1),lT 80 3 8,o 81 (.icall (.t 77) [(.t 79),(.t 80)])])
 .skip))))) }
def C.code_grown : LFunc := { np := 2,res := [.tmp 4,.tmp 5],keep := false,body :=
 (.seq (.ops [bX 2 5 0,bX 3 3 1,mC 4 (.int .i64 0),mC 5 (.int .i64 0)])
 (.seq (.seq (.ops [fA 6 0 3,l1 7 6])
 (.block 0 (.seq (.seq (.ops [bN 9 .eql (.t 7) (cI 1),mT 8 9])
 (.cond (.t 8)
 .skip
 (.seq (.ops [bN 10 .eql (.t 7) (cI 2),mT 8 10])
 (.cond (.t 8)
 .skip
 (.seq (.ops [bN 11 .eql (.t 7) (cI 3),mT 8 11])
 (.cond (.t 8)
 .skip
 (.seq (.ops [bN 12 .eql (.t 7) (cI 4),mT 8 12])
 (.cond (.t 8)
 .skip
 (.seq (.ops [bN 13 .eql (.t 7) (cI 5),mT 8 13])
 (.cond (.t 8)
 .skip
 (.seq (.ops [bN 14 .eql (.t 7) (cI 6),mT 8 14])
 (.cond (.t 8)
 .skip
 (.seq (.ops [bN 15 .eql (.t 7) (cI 26),mT 8 15])
 (.cond (.t 8)
 .skip
 (.seq (.ops [bN 16 .eql (.t 7) (cI 30),mT 8 16])
 (.cond (.t 8)
 .skip
 (.seq (.ops [bN 17 .eql (.t 7) (cI 33),mT 8 17])
 (.cond (.t 8)
 .skip
 (.seq (.ops [bN 18 .eql (.t 7) (cI 31),mT 8 18])
 (.cond (.t 8)
 .skip
 (.ops [bN 19 .eql (.t 7) (cI 32),mT 8 19])))))))))))))))))))))
 (.cond (.t 8)
 (.seq (.ops [mC 4 (.int .i64 1),mC 5 (.int .i64 0)])
 .ret)
 (.seq (.seq (.ops [bN 21 .eql (.t 7) (cI 7),mT 20 21])
 (.cond (.t 20)
 .skip
 (.seq (.ops [bN 22 .eql (.t 7) (cI 12),mT 20 22])
 (.cond (.t 20)
 .skip
 (.seq (.ops [bN 23 .eql (.t 7) (cI 13),mT 20 23])
 (.cond (.t 20)
 .skip
 (.seq (.ops [bN 24 .eql (.t 7) (cI 14),mT 20 24])
 (.cond (.t 20)
 .skip
 (.seq (.ops [bN 25 .eql (.t 7) (cI 15),mT 20 25])
 (.cond (.t 20)
 .skip
 (.seq (.ops [bN 26 .eql (.t 7) (cI 16),mT 20 26])
 (.cond (.t 20)
 .skip
 (.seq (.ops [bN 27 .eql (.t 7) (cI 17),mT 20 27])
 (.cond (.t 20)
 .skip
 (.seq (.ops [bN 28 .eql (.t 7) (cI 23),mT 20 28])
 (.cond (.t 20)
 .skip
 (.ops [bN 29 .eql (.t 7) (cI 27),mT 20 29])))))))))))))))))
 (.cond (.t 20)
 (.seq (.ops [mC 4 (.int .i64 (-1)),mC 5 (.int .i64 0)])
 .ret)
 (.seq (.ops [bN 31 .eql (.t 7) (cI 9),mT 30 31])
 (.cond (.t 30)
 (.seq (.ops [mC 4 (.int .i64 (-1)),mC 5 (.int .i64 1)])
 .ret)
 (.seq (.ops [bN 33 .eql (.t 7) (cI 10),mT 32 33])
 (.cond (.t 32)
 (.seq (.draw [fA 34 1 3,l1 35 34,o 36 (.un .neg (.t 35)),mC 4 (.int .i64 0),mT 5 36]
 [])
 .ret)
 (.seq (.ops [bN 38 .eql (.t 7) (cI 18),mT 37 38])
 (.cond (.t 37)
 (.seq (.ops [fA 39 4 2,l1 40 39,fA 41 1 3,l1 42 41,iA 43 2 40 42,fA 44 1 43,l1 45 44,bN 46 .sub (cI 1) (.t 45),mT 4 46,mC 5 (.int .i64 0)])
 .ret)
 (.seq (.ops [bN 48 .eql (.t 7) (cI 19),mT 47 48])
 (.cond (.t 47)
 (.seq (.ops [fA 49 1 2,l1 50 49,fA 51 1 3,l1 52 51,iA 53 4 50 52,lT 54 4 53,cL 55 F.code_bound [(.t 54)],mC 4 (.int .i64 (-1)),mT 5 55])
 .ret)
 .skip))))))))))))))
 (.seq (.ops [mC 4 (.int .i64 0),mC 5 (.int .i64 0)])
 .ret))) }
def C.code_ends : LFunc := { np := 2,res := [.tmp 4],keep := false,body :=
 (.seq (.ops [bX 2 3 0,mC 4 (.bool false)])
 (.seq (.seq (.ops [mT 5 1])
 (.block 0 (.seq (.ops [o 6 (.assert 197 (.agg [(.int .i64 0)]) true (.t 5)),o 7 (.ext 1 (.t 6)),o 8 (.ext 0 (.t 6))])
 (.cond (.t 7)
 (.seq (.ops [mC 4 (.bool true)])
 .ret)
 .skip))))
 (.seq (.ops [fA 9 0 2,l1 10 9,bN 11 .eql (.t 10) (cI 20),mT 4 11])
 .ret))) }
def C.slices_siftDownOrdered_int : LFunc := { np := 4,res := [],keep := false,body :=
 (.seq (.ops [mT 10 1,mT 8 10])
 (.block 0 (.loop (.block 1 (.seq (.ops [mT 11 8,bN 12 .mul (cI 2) (.t 11),bN 13 .add (.t 12) (cI 1),mT 9 13])
 (.seq (.seq (.ops [mT 14 9,mT 15 2,bN 16 .geq (.t 14) (.t 15)])
 (.cond (.t 16)
 (.exit 0)
 .skip))
 (.seq (.seq (.draw [mT 17 9,bN 18 .add (.t 17) (cI 1),mT 19 2,bN 20 .lss (.t 18) (.t 19),mT 21 20,gM 22 21 true 0,gM 23 21 true 3,gM 24 21 true 9,
 gB 25 21 true .add (.t 23) (.t 24),og 26 21 true (.ia 1 (.t 22) (.t 25)),g1 27 21 true 26,gM 28 21 true 0,gM 29 21 true 3,gM 30 21 true 9,
 gB 31 21 true .add (.t 29) (.t 30),gB 32 21 true .add (.t 31) (cI 1),og 33 21 true (.ia 1 (.t 28) (.t 32)),g1 34 21 true 33,
 gL 35 21 true F.cmp_Less_int [(.t 27),(.t 34)],pA 36 21 35]
 [])
 (.cond (.t 36)
 (.ops [mT 37 9,bN 38 .add (.t 37) (cI 1),mT 9 38])
 .skip))
 (.seq (.seq (.draw [mT 39 0,mT 40 3,mT 41 8,bN 42 .add (.t 40) (.t 41),iA 43 1 39 42,l1 44 43,mT 45 0,mT 46 3,mT 47 9,bN 48 .add (.t 46) (.t 47),iA 49 1 45 48,
 l1 50 49,cL 51 F.cmp_Less_int [(.t 44),(.t 50)],nT 52 51]
 [])
 (.cond (.t 52)
 .ret
 .skip))
 (.seq (.draw [mT 53 0,mT 54 3,mT 55 8,bN 56 .add (.t 54) (.t 55),mT 57 0,mT 58 3,mT 59 9,bN 60 .add (.t 58) (.t 59),mT 61 0,mT 62 3,mT 63 9,bN 64 .add (.t 62) (.t 63),
 iA 65 1 61 64,l1 66 65,mT 67 0,mT 68 3,mT 69 8,bN 70 .add (.t 68) (.t 69),iA 71 1 67 70,l1 72 71,iA 73 1 53 56,sT 1 73 66,iA 74 1 57 60,sT 1 74 72]
 [])
 (.ops [mT 75 9,mT 8 75])))))))))) }
def C.slices_nextPowerOfTwo : LFunc := { np := 1,res := [.tmp 2],keep := false,body :=
 (.seq (.ops [mC 2 (.int .u64 0)])
 (.seq (.ops [mT 3 0,o 4 (.wrap .u64 (.t 3)),cL 5 F.math_bits_Len [(.t 4)],bN 6 .shl (.c (.int .u64 1)) (.t 5),mT 2 6])
 .ret)) }
def C.slices_xorshift_Next : LFunc := { np := 1,res := [.tmp 2],keep := false,body :=
 (.seq (.ops [mC 2 (.int .u64 0)])
 (.seq (.draw [mT 3 0,nK 4 3,l1 5 4,mT 6 0,nK 7 6,l1 8 7,bN 9 .shl (.t 8) (.c (.int .u64 13)),bN 10 .xor (.t 5) (.t 9),nK 11 3,sT 1 11 10]
 [])
 (.seq (.draw [mT 12 0,nK 13 12,l1 14 13,mT 15 0,nK 16 15,l1 17 16,bN 18 .shr (.t 17) (.c (.int .u64 7)),bN 19 .xor (.t 14) (.t 18),nK 20 12,sT 1 20 19]
 [])
 (.seq (.draw [mT 21 0,nK 22 21,l1 23 22,mT 24 0,nK 25 24,l1 26 25,bN 27 .shl (.t 26) (.c (.int .u64 17)),bN 28 .xor (.t 23) (.t 27),nK 29 21,sT 1 29 28]
 [])
 (.seq (.ops [mT 30 0,nK 31 30,l1 32 31,mT 2 32])
 .ret))))) }
def C.slices_medianAdjacentOrdered_int : LFunc := { np := 3,res := [.tmp 6],keep := false,body :=
 (.seq (.ops [mC 6 (.int .i64 0)])
 (.seq (.ops [mT 7 0,mT 8 1,bN 9 .sub (.t 8) (cI 1),mT 10 1,mT 11 1,bN 12 .add (.t 11) (cI 1),mT 13 2,
 cL 14 F.slices_medianOrdered_int [(.t 7),(.t 9),(.t 10),(.t 12),(.t 13)],mT 6 14])
 .ret)) }
def C.slices_medianOrdered_int : LFunc := { np := 5,res := [.tmp 10],keep := false,body :=
 (.seq (.ops [mC 10 (.int .i64 0)])
 (.seq (.ops [mT 12 0,mT 13 1,mT 14 2,mT 15 4,cL 16 F.slices_order2Ordered_int [(.t 12),(.t 13),(.t 14),(.t 15)],mT 11 16,o 17 (.ext 0 (.t 11)),o 18 (.ext 1 (.t 11)),
 mT 1 17,mT 2 18])
 (.seq (.ops [mT 20 0,mT 21 2,mT 22 3,mT 23 4,cL 24 F.slices_order2Ordered_int [(.t 20),(.t 21),(.t 22),(.t 23)],mT 19 24,o 25 (.ext 0 (.t 19)),o 26 (.ext 1 (.t 19)),
 mT 2 25,mT 3 26])
 (.seq (.ops [mT 28 0,mT 29 1,mT 30 2,mT 31 4,cL 32 F.slices_order2Ordered_int [(.t 28),(.t 29),(.t 30),(.t 31)],mT 27 32,o 33 (.ext 0 (.t 27)),o 34 (.ext 1 (.t 27)),
 mT 1 33,mT 2 34])
 (.seq (.ops [mT 35 2,mT 10 35])
 .ret))))) }
def C.slices_rotateCmpFunc_int : LFunc := { np := 5,res := [],keep := false,body :=
 (.seq (.ops [mT 12 2,mT 13 1,bN 14 .sub (.t 12) (.t 13),mT 10 14])
 (.seq (.ops [mT 15 3,mT 16 2,bN 17 .sub (.t 15) (.t 16),mT 11 17])
 (.seq (.block 0 (.loop (.seq (.seq (.ops [mT 18 10,mT 19 11,bN 20 .neq (.t 18) (.t 19)])
 (.cond (.t 20)
 .skip
 (.exit 0)))
 (.block 1 (.seq (.ops [mT 21 10,mT 22 11,bN 23 .gtr (.t 21) (.t 22)])
 (.cond (.t 23)
 (.seq (.ops [mT 24 0,mT 25 2,mT 26 10,bN 27 .sub (.t 25) (.t 26),mT 28 2,mT 29 11,mT 30 4,
 o 31 (.icall (.f F.slices_swapRangeCmpFunc_int) [(.t 24),(.t 27),(.t 28),(.t 29),(.t 30)])])
 (.ops [mT 32 10,mT 33 11,bN 34 .sub (.t 32) (.t 33),mT 10 34]))
 (.seq (.ops [mT 35 0,mT 36 2,mT 37 10,bN 38 .sub (.t 36) (.t 37),mT 39 2,mT 40 11,bN 41 .add (.t 39) (.t 40),mT 42 10,bN 43 .sub (.t 41) (.t 42),mT 44 10,mT 45 4,
 o 46 (.icall (.f F.slices_swapRangeCmpFunc_int) [(.t 35),(.t 38),(.t 43),(.t 44),(.t 45)])])
 (.ops [mT 47 11,mT 48 10,bN 49 .sub (.t 47) (.t 48),mT 11 49]))))))))
 (.ops [mT 50 0,mT 51 2,mT 52 10,bN 53 .sub (.t 51) (.t 52),mT 54 2,mT 55 10,mT 56 4,
 o 57 (.icall (.f F.slices_swapRangeCmpFunc_int) [(.t 50),(.t 53),(.t 54),(.t 55),(.t 56)])])))) }
def C.code_all_api_BindCon : LFunc := { np := 2,res := [.tmp 4],keep := false,body :=
 (.seq (.ops [bX 3 1 1,mC 4 (.bool false)])
 (.seq (.ops [mT 5 0,o 6 (.mkfn F.code_all_api_BindCon_c1 [] [(.t 3)]),cL 7 F.slices_ContainsFunc_s_api_BindCon_api_BindCon [(.t 5),(.t 6)],nT 8 7,mT 4 8])
 .ret)) }
def C.code_constructors_c1 : LFunc := { np := 2,res := [.tmp 3],keep := false,body :=
 (.seq (.ops [bX 2 2 0,mC 3 (.bool false)])
 (.seq (.ops [fA 5 0 2,l1 6 5,cL 7 F.code_great [(.t 6)],mT 8 7,gF 9 8 true 1 2,g1 10 8 true 9,gL 11 8 true F.code_in [(.t 10),(cI 0),(cI 3)],pA 12 8 11,mT 13 12,
 g1 14 13 true 1,gF 15 13 true 0 2,g1 16 13 true 15,og 17 13 true (.mget .str (.bool false) false (.t 14) (.t 16)),og 18 13 true (.un .not (.t 17)),pA 19 13 18,
 mT 4 19])
 (.seq (.ops [l1 20 1,fA 21 0 2,l1 22 21,on (.mput .str (.t 20) (.t 22) (cB true))])
 (.seq (.ops [mT 23 4,mT 3 23])
 .ret)))) }
def C.code_great : LFunc := { np := 1,res := [.tmp 2],keep := false,body :=
 (.seq (.ops [mC 2 (.bool false)])
 (.seq (.seq (.ops [mT 5 0,o 6 (.bin .eql .str (.t 5) (.c (.str ⟨#[]⟩))),mT 7 6,gM 8 7 false 0,og 9 7 false (.len .str (.t 8)),gB 10 7 false .gtr (.t 9) (cI 8),
 pO 11 7 10,mT 12 11,gM 13 12 false 0,og 14 12 false (.ixs (.t 13) (cI 0)),gB 15 12 false .lss (.t 14) (.c (.int .u8 65)),pO 16 12 15,mT 17 16,gM 18 17 false 0,
 og 19 17 false (.ixs (.t 18) (cI 0)),gB 20 17 false .gtr (.t 19) (.c (.int .u8 90)),pO 21 17 20])
 (.cond (.t 21)
 (.seq (.ops [mC 2 (.bool false)])
 .ret)
 .skip))
 (.seq (.seq (.ops [mT 22 0,o 23 (.slice true 1 (.t 22) (some (cI 1)) none none),o 24 (.rng (.t 23))])
 (.block 0 (.loop (.seq (.ops [o 25 (.nxt (.t 24)),o 26 (.ext 0 (.t 25))])
 (.seq (.cond (.t 26)
 .skip
 (.exit 0))
 (.block 1 (.seq (.ops [o 27 (.ext 2 (.t 25)),mT 4 27])
 (.seq (.ops [mT 28 4,bN 29 .lss (.t 28) (.c (.int .i32 97)),mT 30 29,gM 31 30 false 4,gB 32 30 false .gtr (.t 31) (.c (.int .i32 122)),pO 33 30 32])
 (.cond (.t 33)
 (.seq (.ops [mC 2 (.bool false)])
 .ret)
 .skip)))))))))
 (.seq (.ops [mC 2 (.bool true)])
 .ret)))) }
def C.slices_ContainsFunc_s_api_TermPat_api_TermPat : LFunc := { np := 2,res := [.tmp 4],keep := false,body :=
 (.seq (.ops [mC 4 (.bool false)])
 (.seq (.ops [mT 5 0,mT 6 1,cL 7 F.slices_IndexFunc_s_api_TermPat_api_TermPat [(.t 5),(.t 6)],bN 8 .geq (.t 7) (cI 0),mT 4 8])
 .ret)) }
def C.code_all_api_TermPat_c1 : LFunc := { np := 2,res := [.tmp 3],keep := false,body :=
 (.seq (.ops [bX 2 4 0,mC 3 (.bool false)])
 (.seq (.ops [l1 4 1,lT 5 4 2,o 6 (.call (.t 4) [(.t 5)]),nT 7 6,mT 3 7])
 .ret)) }
def C.code_pattern_c1 : LFunc := { np := 2,res := [.tmp 3],keep := false,body :=
 (.seq (.ops [bX 2 4 0,mC 3 (.bool false)])
 (.seq (.ops [lT 4 4 2,l1 5 1,cL 6 F.code_pattern [(.t 4),(.t 5)],mT 3 6])
 .ret)) }
def C.slices_ContainsFunc_s_api_CodeIns_api_CodeIns : LFunc := { np := 2,res := [.tmp 4],keep := false,body :=
 (.seq (.ops [mC 4 (.bool false)])
 (.seq (.ops [mT 5 0,mT 6 1,cL 7 F.slices_IndexFunc_s_api_CodeIns_api_CodeIns [(.t 5),(.t 6)],bN 8 .geq (.t 7) (cI 0),mT 4 8])
 .ret)) }
def C.code_all_api_CodeIns_c1 : LFunc := { np := 2,res := [.tmp 3],keep := false,body :=
 (.seq (.ops [bX 2 3 0,mC 3 (.bool false)])
 (.seq (.ops [l1 4 1,lT 5 3 2,o 6 (.call (.t 4) [(.t 5)]),nT 7 6,mT 3 7])
 .ret)) }
def C.code_bound : LFunc := { np := 1,res := [.tmp 2],keep := false,body :=
 (.seq (.ops [bX 1 4 0,mC 2 (.int .i64 0)])
 (.seq (.ops [mC 3 (.int .i64 0)])
 (.seq (.seq (.ops [fA 6 0 1,l1 7 6,bN 8 .eql (.t 7) (cI 2)])
 (.cond (.t 8)
 (.ops [mC 3 (.int .i64 1)])
 .skip))
 (.seq (.seq (.ops [fA 9 3 1,l1 10 9,lN 11 10,mC 12 (.int .i64 0)])
 (.block 0 (.loop (.seq (.ops [bN 13 .lss (.t 12) (.t 11)])
 (.seq (.cond (.t 13)
 .skip
 (.exit 0))
 (.seq (.block 1 (.seq (.ops [iA 14 4 10 12,lT 15 4 14,o 5 (.alloc [(.int .i64 0),(.int .i64 0),(.str ⟨#[]⟩),(.cl [])]),sT 4 5 15])
 (.ops [mT 16 3,lT 17 4 5,cL 18 F.code_bound [(.t 17)],bN 19 .add (.t 16) (.t 18),mT 3 19])))
 (.ops [bN 20 .add (.t 12) (cI 1),mT 12 20])))))))
 (.seq (.ops [mT 21 3,mT 2 21])
 .ret))))) }
def C.slices_order2Ordered_int : LFunc := { np := 4,res := [.tmp 8,.tmp 9],keep := false,body :=
 (.seq (.ops [mC 8 (.int .i64 0),mC 9 (.int .i64 0)])
 (.seq (.seq (.draw [mT 10 0,mT 11 2,iA 12 1 10 11,l1 13 12,mT 14 0,mT 15 1,iA 16 1 14 15,l1 17 16,cL 18 F.cmp_Less_int [(.t 13),(.t 17)]]
 [])
 (.cond (.t 18)
 (.seq (.ops [mT 19 3,nK 20 19,l1 21 20,bN 22 .add (.t 21) (cI 1),nK 23 19,sT 1 23 22])
 (.seq (.ops [mT 24 2,mT 25 1,mT 8 24,mT 9 25])
 .ret))
 .skip))
 (.seq (.ops [mT 26 1,mT 27 2,mT 8 26,mT 9 27])
 .ret))) }
def C.slices_swapRangeCmpFunc_int : LFunc := { np := 5,res := [],keep := false,body :=
 (.seq (.ops [mC 10 (.int .i64 0)])
 (.block 0 (.loop (.seq (.seq (.ops [mT 11 10,mT 12 3,bN 13 .lss (.t 11) (.t 12)])
 (.cond (.t 13)
 .skip
 (.exit 0)))
 (.seq (.block 1 (.draw [mT 16 0,mT 17 1,mT 18 10,bN 19 .add (.t 17) (.t 18),mT 20 0,mT 21 2,mT 22 10,bN 23 .add (.t 21) (.t 22),mT 24 0,mT 25 2,mT 26 10,
 bN 27 .add (.t 25) (.t 26),iA 28 1 24 27,l1 29 28,mT 30 0,mT 31 1,mT 32 10,bN 33 .add (.t 31) (.t 32),iA 34 1 30 33,l1 35 34,iA 36 1 16 19,sT 1 36 29,iA 37 1 20 23,
 sT 1 37 35]
 []))
 (.ops [mT 14 10,bN 15 .add (.t 14) (cI 1),mT 10 15])))))) }
def C.slices_ContainsFunc_s_api_BindCon_api_BindCon : LFunc := { np := 2,res := [.tmp 4],keep := false,body :=
 (.seq (.ops [mC 4 (.bool false)])
 (.seq (.ops [mT 5 0,mT 6 1,cL 7 F.slices_IndexFunc_s_api_BindCon_api_BindCon [(.t 5),(.t 6)],bN 8 .geq (.t 7) (cI 0),mT 4 8])
 .ret)) }
def C.code_all_api_BindCon_c1 : LFunc := { np := 2,res := [.tmp 3],keep := false,body :=
 (.seq (.ops [bX 2 2 0,mC 3 (.bool false)])
 (.seq (.ops [l1 4 1,lT 5 2 2,o 6 (.call (.t 4) [(.t 5)]),nT 7 6,mT 3 7])
 .ret)) }
def C.slices_IndexFunc_s_api_TermPat_api_TermPat : LFunc := { np := 2,res := [.tmp 4],keep := false,body :=
 (.seq (.ops [mC 4 (.int .i64 0)])
 (.seq (.seq (.ops [mT 6 0,lN 7 6,mC 8 (.int .i64 0)])
 (.block 0 (.loop (.seq (.ops [bN 9 .lss (.t 8) (.t 7)])
 (.seq (.cond (.t 9)
 .skip
 (.exit 0))
 (.seq (.block 1 (.seq (.ops [mT 10 8,mT 5 10])
 (.seq (.ops [mT 11 1,mT 12 0,mT 13 5,iA 14 4 12 13,lT 15 4 14,o 16 (.call (.t 11) [(.t 15)])])
 (.cond (.t 16)
 (.seq (.ops [mT 17 5,mT 4 17])
 .ret)
 .skip))))
 (.ops [bN 18 .add (.t 8) (cI 1),mT 8 18])))))))
 (.seq (.ops [mC 4 (.int .i64 (-1))])
 .ret))) }
def C.slices_IndexFunc_s_api_CodeIns_api_CodeIns : LFunc := { np := 2,res := [.tmp 4],keep := false,body :=
 (.seq (.ops [mC 4 (.int .i64 0)])
 (.seq (.seq (.ops [mT 6 0,lN 7 6,mC 8 (.int .i64 0)])
 (.block 0 (.loop (.seq (.ops [bN 9 .lss (.t 8) (.t 7)])
 (.seq (.cond (.t 9)
 .skip
 (.exit 0))
 (.seq (.block 1 (.seq (.ops [mT 10 8,mT 5 10])
 (.seq (.ops [mT 11 1,mT 12 0,mT 13 5,iA 14 3 12 13,lT 15 3 14,o 16 (.call (.t 11) [(.t 15)])])
 (.cond (.t 16)
 (.seq (.ops [mT 17 5,mT 4 17])
 .ret)
 .skip))))
 (.ops [bN 18 .add (.t 8) (cI 1),mT 8 18])))))))
 (.seq (.ops [mC 4 (.int .i64 (-1))])
 .ret))) }
def C.slices_IndexFunc_s_api_BindCon_api_BindCon : LFunc := { np := 2,res := [.tmp 4],keep := false,body :=
 (.seq (.ops [mC 4 (.int .i64 0)])
 (.seq (.seq (.ops [mT 6 0,lN 7 6,mC 8 (.int .i64 0)])
 (.block 0 (.loop (.seq (.ops [bN 9 .lss (.t 8) (.t 7)])
 (.seq (.cond (.t 9)
 .skip
 (.exit 0))
 (.seq (.block 1 (.seq (.ops [mT 10 8,mT 5 10])
 (.seq (.ops [mT 11 1,mT 12 0,mT 13 5,iA 14 2 12 13,lT 15 2 14,o 16 (.call (.t 11) [(.t 15)])])
 (.cond (.t 16)
 (.seq (.ops [mT 17 5,mT 4 17])
 .ret)
 .skip))))
 (.ops [bN 18 .add (.t 8) (cI 1),mT 8 18])))))))
 (.seq (.ops [mC 4 (.int .i64 (-1))])
 .ret))) }
def C.code_wide_met : LFunc := { np := 2,res := [.tmp 4],keep := false,body :=
 (.seq (.ops [bX 2 1 0,bX 3 3 1,mC 4 (.bool false)])
 (.seq (.ops [fA 5 2 3,l1 6 5,fA 7 0 2,l1 8 7,bN 9 .geq (.t 6) (.t 8),mT 4 9])
 .ret)) }
def C.code_least_met : LFunc := { np := 2,res := [.tmp 4],keep := false,body :=
 (.seq (.ops [bX 2 1 0,bX 3 3 1,mC 4 (.bool false)])
 (.seq (.ops [fA 5 1 3,l1 6 5,fA 7 0 2,l1 8 7,bN 9 .geq (.t 6) (.t 8),mT 4 9])
 .ret)) }
def C.code_just_met : LFunc := { np := 2,res := [.tmp 4],keep := false,body :=
 (.seq (.ops [bX 2 1 0,bX 3 3 1,mC 4 (.bool false)])
 (.seq (.ops [fA 5 1 3,l1 6 5,fA 7 0 2,l1 8 7,bN 9 .eql (.t 6) (.t 8),mT 4 9])
 .ret)) }
def tbl : List (Nat × LFunc) := [(3,C.W12_LiveKnown),(4,C.live_Starts),(5,C.W12_A),(6,C.live_Blocks),(7,C.live_Does),(8,C.W12_B),(9,C.live_Live),(10,C.slices_Equal_s_api_LiveStart_api_LiveStart),(11,C.slices_Equal_s_api_LiveVar_api_LiveVar),(12,C.W12_s),(13,C.W12_e),(14,C.live_Check),(15,C.W12_alloc),(16,C.live_Cost),(17,C.live_Alloc),(18,C.W12_works),(19,C.live_opened),(20,C.live_program_starts),(21,C.W12_ins),(22,C.live_program_reached),(23,C.live_branches),(24,C.live_Blocks_c1),(25,C.slices_Sort_s_int_int),(26,C.slices_Compact_s_int_int),(27,C.live_named),(28,C.live_program_live),(29,C.live_set_list),(30,C.live_segmented),(31,C.live_segment_placed),(32,C.live_segment_wrong),(33,C.slices_Concat_s_int_int),(34,C.live_segment_written),(35,C.slices_Clone_s_int_int),(36,C.slices_SortStableFunc_s_int_int),(37,C.live_Alloc_c1),(38,C.cmp_Compare_int),(39,C.live_segment_uses),(40,C.live_segment_clashes),(41,C.live_Alloc_c2),(42,C.slices_ContainsFunc_s_int_int),(43,C.live_Alloc_c2_c1),(44,C.live_set_has),(45,C.live_Clashes),(46,C.R12_SameBlocks),(47,C.R12_SameLists),(48,C.R12_SamePairs),(49,C.R12_SameAlloc),(50,C.code_Depths),(51,C.live_shapes),(52,C.live_program_stepOf),(53,C.live_program_reached_c1),(54,C.slices_pdqsortOrdered_int),(55,C.math_bits_Len),(56,C.live_variable),(57,C.live_bag),(58,C.live_set_and),(59,C.live_set_less),(60,C.math_bits_TrailingZeros64),(61,C.live_segment_wrong_c1),(62,C.live_set_with),(63,C.live_segment_begins),(64,C.slices_Grow_s_int_int),(65,C.slices_stableCmpFunc_int),(66,C.cmp_isNaN_int),(67,C.slices_Contains_s_int_int),(68,C.live_segment_edges),(69,C.slices_IndexFunc_s_int_int),(70,C.R05_Numbers),(71,C.R12_SameVars),(72,C.code_Check),(73,C.code_Depths_c1),(74,C.code_wanted),(75,C.code_all_int),(76,C.code_Depths_c2),(77,C.code_depth),(78,C.code_follows),(79,C.live_count),(80,C.live_env),(81,C.live_names),(82,C.slices_insertionSortOrdered_int),(83,C.slices_heapSortOrdered_int),(84,C.slices_breakPatternsOrdered_int),(85,C.slices_choosePivotOrdered_int),(86,C.slices_reverseRangeOrdered_int),(87,C.slices_partialInsertionSortOrdered_int),(88,C.cmp_Less_int),(89,C.slices_partitionEqualOrdered_int),(90,C.slices_partitionOrdered_int),(91,C.math_bits_Len32),(92,C.math_bits_Len64),(93,C.slices_insertionSortCmpFunc_int),(94,C.slices_symMergeCmpFunc_int),(95,C.slices_Index_s_int_int),(96,C.R05_same),(97,C.code_in),(98,C.code_constructors),(99,C.code_Check_c1),(100,C.code_all_api_TermPat),(101,C.code_Check_c2),(102,C.code_few),(103,C.code_pattern),(104,C.code_all_api_CodeIns),(105,C.code_Check_c3),(106,C.code_fields),(107,C.code_all_int_c1),(108,C.code_follows_c1),(109,C.code_grown),(110,C.code_ends),(111,C.slices_siftDownOrdered_int),(112,C.slices_nextPowerOfTwo),(113,C.slices_xorshift_Next),(114,C.slices_medianAdjacentOrdered_int),(115,C.slices_medianOrdered_int),(116,C.slices_rotateCmpFunc_int),(117,C.code_all_api_BindCon),(118,C.code_constructors_c1),(119,C.code_great),(120,C.slices_ContainsFunc_s_api_TermPat_api_TermPat),(121,C.code_all_api_TermPat_c1),(122,C.code_pattern_c1),(123,C.slices_ContainsFunc_s_api_CodeIns_api_CodeIns),(124,C.code_all_api_CodeIns_c1),(125,C.code_bound),(126,C.slices_order2Ordered_int),(127,C.slices_swapRangeCmpFunc_int),(128,C.slices_ContainsFunc_s_api_BindCon_api_BindCon),(129,C.code_all_api_BindCon_c1),(130,C.slices_IndexFunc_s_api_TermPat_api_TermPat),(131,C.slices_IndexFunc_s_api_CodeIns_api_CodeIns),(132,C.slices_IndexFunc_s_api_BindCon_api_BindCon),(148,C.code_wide_met),(149,C.code_least_met),(150,C.code_just_met)]
def L : Prog := fun f => tbl.lookup f
theorem LF.W12_LiveKnown : L F.W12_LiveKnown = some C.W12_LiveKnown := by kernel_rfl
theorem LF.live_Starts : L F.live_Starts = some C.live_Starts := by kernel_rfl
theorem LF.W12_A : L F.W12_A = some C.W12_A := by kernel_rfl
theorem LF.live_Blocks : L F.live_Blocks = some C.live_Blocks := by kernel_rfl
theorem LF.live_Does : L F.live_Does = some C.live_Does := by kernel_rfl
theorem LF.W12_B : L F.W12_B = some C.W12_B := by kernel_rfl
theorem LF.live_Live : L F.live_Live = some C.live_Live := by kernel_rfl
theorem LF.slices_Equal_s_api_LiveStart_api_LiveStart : L F.slices_Equal_s_api_LiveStart_api_LiveStart = some C.slices_Equal_s_api_LiveStart_api_LiveStart := by kernel_rfl
theorem LF.slices_Equal_s_api_LiveVar_api_LiveVar : L F.slices_Equal_s_api_LiveVar_api_LiveVar = some C.slices_Equal_s_api_LiveVar_api_LiveVar := by kernel_rfl
theorem LF.W12_s : L F.W12_s = some C.W12_s := by kernel_rfl
theorem LF.W12_e : L F.W12_e = some C.W12_e := by kernel_rfl
theorem LF.live_Check : L F.live_Check = some C.live_Check := by kernel_rfl
theorem LF.W12_alloc : L F.W12_alloc = some C.W12_alloc := by kernel_rfl
theorem LF.live_Cost : L F.live_Cost = some C.live_Cost := by kernel_rfl
theorem LF.live_Alloc : L F.live_Alloc = some C.live_Alloc := by kernel_rfl
theorem LF.W12_works : L F.W12_works = some C.W12_works := by kernel_rfl
theorem LF.live_opened : L F.live_opened = some C.live_opened := by kernel_rfl
theorem LF.live_program_starts : L F.live_program_starts = some C.live_program_starts := by kernel_rfl
theorem LF.W12_ins : L F.W12_ins = some C.W12_ins := by kernel_rfl
theorem LF.live_program_reached : L F.live_program_reached = some C.live_program_reached := by kernel_rfl
theorem LF.live_branches : L F.live_branches = some C.live_branches := by kernel_rfl
theorem LF.live_Blocks_c1 : L F.live_Blocks_c1 = some C.live_Blocks_c1 := by kernel_rfl
theorem LF.slices_Sort_s_int_int : L F.slices_Sort_s_int_int = some C.slices_Sort_s_int_int := by kernel_rfl
theorem LF.slices_Compact_s_int_int : L F.slices_Compact_s_int_int = some C.slices_Compact_s_int_int := by kernel_rfl
theorem LF.live_named : L F.live_named = some C.live_named := by kernel_rfl
theorem LF.live_program_live : L F.live_program_live = some C.live_program_live := by kernel_rfl
theorem LF.live_set_list : L F.live_set_list = some C.live_set_list := by kernel_rfl
theorem LF.live_segmented : L F.live_segmented = some C.live_segmented := by kernel_rfl
theorem LF.live_segment_placed : L F.live_segment_placed = some C.live_segment_placed := by kernel_rfl
theorem LF.live_segment_wrong : L F.live_segment_wrong = some C.live_segment_wrong := by kernel_rfl
theorem LF.slices_Concat_s_int_int : L F.slices_Concat_s_int_int = some C.slices_Concat_s_int_int := by kernel_rfl
theorem LF.live_segment_written : L F.live_segment_written = some C.live_segment_written := by kernel_rfl
theorem LF.slices_Clone_s_int_int : L F.slices_Clone_s_int_int = some C.slices_Clone_s_int_int := by kernel_rfl
theorem LF.slices_SortStableFunc_s_int_int : L F.slices_SortStableFunc_s_int_int = some C.slices_SortStableFunc_s_int_int := by kernel_rfl
theorem LF.live_Alloc_c1 : L F.live_Alloc_c1 = some C.live_Alloc_c1 := by kernel_rfl
theorem LF.cmp_Compare_int : L F.cmp_Compare_int = some C.cmp_Compare_int := by kernel_rfl
theorem LF.live_segment_uses : L F.live_segment_uses = some C.live_segment_uses := by kernel_rfl
theorem LF.live_segment_clashes : L F.live_segment_clashes = some C.live_segment_clashes := by kernel_rfl
theorem LF.live_Alloc_c2 : L F.live_Alloc_c2 = some C.live_Alloc_c2 := by kernel_rfl
theorem LF.slices_ContainsFunc_s_int_int : L F.slices_ContainsFunc_s_int_int = some C.slices_ContainsFunc_s_int_int := by kernel_rfl
theorem LF.live_Alloc_c2_c1 : L F.live_Alloc_c2_c1 = some C.live_Alloc_c2_c1 := by kernel_rfl
theorem LF.live_set_has : L F.live_set_has = some C.live_set_has := by kernel_rfl
theorem LF.live_Clashes : L F.live_Clashes = some C.live_Clashes := by kernel_rfl
theorem LF.R12_SameBlocks : L F.R12_SameBlocks = some C.R12_SameBlocks := by kernel_rfl
theorem LF.R12_SameLists : L F.R12_SameLists = some C.R12_SameLists := by kernel_rfl
theorem LF.R12_SamePairs : L F.R12_SamePairs = some C.R12_SamePairs := by kernel_rfl
theorem LF.R12_SameAlloc : L F.R12_SameAlloc = some C.R12_SameAlloc := by kernel_rfl
theorem LF.code_Depths : L F.code_Depths = some C.code_Depths := by kernel_rfl
theorem LF.live_shapes : L F.live_shapes = some C.live_shapes := by kernel_rfl
theorem LF.live_program_stepOf : L F.live_program_stepOf = some C.live_program_stepOf := by kernel_rfl
theorem LF.live_program_reached_c1 : L F.live_program_reached_c1 = some C.live_program_reached_c1 := by kernel_rfl
theorem LF.slices_pdqsortOrdered_int : L F.slices_pdqsortOrdered_int = some C.slices_pdqsortOrdered_int := by kernel_rfl
theorem LF.math_bits_Len : L F.math_bits_Len = some C.math_bits_Len := by kernel_rfl
theorem LF.live_variable : L F.live_variable = some C.live_variable := by kernel_rfl
theorem LF.live_bag : L F.live_bag = some C.live_bag := by kernel_rfl
theorem LF.live_set_and : L F.live_set_and = some C.live_set_and := by kernel_rfl
theorem LF.live_set_less : L F.live_set_less = some C.live_set_less := by kernel_rfl
theorem LF.math_bits_TrailingZeros64 : L F.math_bits_TrailingZeros64 = some C.math_bits_TrailingZeros64 := by kernel_rfl
theorem LF.live_segment_wrong_c1 : L F.live_segment_wrong_c1 = some C.live_segment_wrong_c1 := by kernel_rfl
theorem LF.live_set_with : L F.live_set_with = some C.live_set_with := by kernel_rfl
theorem LF.live_segment_begins : L F.live_segment_begins = some C.live_segment_begins := by kernel_rfl
theorem LF.slices_Grow_s_int_int : L F.slices_Grow_s_int_int = some C.slices_Grow_s_int_int := by kernel_rfl
theorem LF.slices_stableCmpFunc_int : L F.slices_stableCmpFunc_int = some C.slices_stableCmpFunc_int := by kernel_rfl
theorem LF.cmp_isNaN_int : L F.cmp_isNaN_int = some C.cmp_isNaN_int := by kernel_rfl
theorem LF.slices_Contains_s_int_int : L F.slices_Contains_s_int_int = some C.slices_Contains_s_int_int := by kernel_rfl
theorem LF.live_segment_edges : L F.live_segment_edges = some C.live_segment_edges := by kernel_rfl
theorem LF.slices_IndexFunc_s_int_int : L F.slices_IndexFunc_s_int_int = some C.slices_IndexFunc_s_int_int := by kernel_rfl
theorem LF.R05_Numbers : L F.R05_Numbers = some C.R05_Numbers := by kernel_rfl
theorem LF.R12_SameVars : L F.R12_SameVars = some C.R12_SameVars := by kernel_rfl
theorem LF.code_Check : L F.code_Check = some C.code_Check := by kernel_rfl
theorem LF.code_Depths_c1 : L F.code_Depths_c1 = some C.code_Depths_c1 := by kernel_rfl
theorem LF.code_wanted : L F.code_wanted = some C.code_wanted := by kernel_rfl
theorem LF.code_all_int : L F.code_all_int = some C.code_all_int := by kernel_rfl
theorem LF.code_Depths_c2 : L F.code_Depths_c2 = some C.code_Depths_c2 := by kernel_rfl
theorem LF.code_depth : L F.code_depth = some C.code_depth := by kernel_rfl
theorem LF.code_follows : L F.code_follows = some C.code_follows := by kernel_rfl
theorem LF.live_count : L F.live_count = some C.live_count := by kernel_rfl
theorem LF.live_env : L F.live_env = some C.live_env := by kernel_rfl
theorem LF.live_names : L F.live_names = some C.live_names := by kernel_rfl
theorem LF.slices_insertionSortOrdered_int : L F.slices_insertionSortOrdered_int = some C.slices_insertionSortOrdered_int := by kernel_rfl
theorem LF.slices_heapSortOrdered_int : L F.slices_heapSortOrdered_int = some C.slices_heapSortOrdered_int := by kernel_rfl
theorem LF.slices_breakPatternsOrdered_int : L F.slices_breakPatternsOrdered_int = some C.slices_breakPatternsOrdered_int := by kernel_rfl
theorem LF.slices_choosePivotOrdered_int : L F.slices_choosePivotOrdered_int = some C.slices_choosePivotOrdered_int := by kernel_rfl
theorem LF.slices_reverseRangeOrdered_int : L F.slices_reverseRangeOrdered_int = some C.slices_reverseRangeOrdered_int := by kernel_rfl
theorem LF.slices_partialInsertionSortOrdered_int : L F.slices_partialInsertionSortOrdered_int = some C.slices_partialInsertionSortOrdered_int := by kernel_rfl
theorem LF.cmp_Less_int : L F.cmp_Less_int = some C.cmp_Less_int := by kernel_rfl
theorem LF.slices_partitionEqualOrdered_int : L F.slices_partitionEqualOrdered_int = some C.slices_partitionEqualOrdered_int := by kernel_rfl
theorem LF.slices_partitionOrdered_int : L F.slices_partitionOrdered_int = some C.slices_partitionOrdered_int := by kernel_rfl
theorem LF.math_bits_Len32 : L F.math_bits_Len32 = some C.math_bits_Len32 := by kernel_rfl
theorem LF.math_bits_Len64 : L F.math_bits_Len64 = some C.math_bits_Len64 := by kernel_rfl
theorem LF.slices_insertionSortCmpFunc_int : L F.slices_insertionSortCmpFunc_int = some C.slices_insertionSortCmpFunc_int := by kernel_rfl
theorem LF.slices_symMergeCmpFunc_int : L F.slices_symMergeCmpFunc_int = some C.slices_symMergeCmpFunc_int := by kernel_rfl
theorem LF.slices_Index_s_int_int : L F.slices_Index_s_int_int = some C.slices_Index_s_int_int := by kernel_rfl
theorem LF.R05_same : L F.R05_same = some C.R05_same := by kernel_rfl
theorem LF.code_in : L F.code_in = some C.code_in := by kernel_rfl
theorem LF.code_constructors : L F.code_constructors = some C.code_constructors := by kernel_rfl
theorem LF.code_Check_c1 : L F.code_Check_c1 = some C.code_Check_c1 := by kernel_rfl
theorem LF.code_all_api_TermPat : L F.code_all_api_TermPat = some C.code_all_api_TermPat := by kernel_rfl
theorem LF.code_Check_c2 : L F.code_Check_c2 = some C.code_Check_c2 := by kernel_rfl
theorem LF.code_few : L F.code_few = some C.code_few := by kernel_rfl
theorem LF.code_pattern : L F.code_pattern = some C.code_pattern := by kernel_rfl
theorem LF.code_all_api_CodeIns : L F.code_all_api_CodeIns = some C.code_all_api_CodeIns := by kernel_rfl
theorem LF.code_Check_c3 : L F.code_Check_c3 = some C.code_Check_c3 := by kernel_rfl
theorem LF.code_fields : L F.code_fields = some C.code_fields := by kernel_rfl
theorem LF.code_all_int_c1 : L F.code_all_int_c1 = some C.code_all_int_c1 := by kernel_rfl
theorem LF.code_follows_c1 : L F.code_follows_c1 = some C.code_follows_c1 := by kernel_rfl
theorem LF.code_grown : L F.code_grown = some C.code_grown := by kernel_rfl
theorem LF.code_ends : L F.code_ends = some C.code_ends := by kernel_rfl
theorem LF.slices_siftDownOrdered_int : L F.slices_siftDownOrdered_int = some C.slices_siftDownOrdered_int := by kernel_rfl
theorem LF.slices_nextPowerOfTwo : L F.slices_nextPowerOfTwo = some C.slices_nextPowerOfTwo := by kernel_rfl
theorem LF.slices_xorshift_Next : L F.slices_xorshift_Next = some C.slices_xorshift_Next := by kernel_rfl
theorem LF.slices_medianAdjacentOrdered_int : L F.slices_medianAdjacentOrdered_int = some C.slices_medianAdjacentOrdered_int := by kernel_rfl
theorem LF.slices_medianOrdered_int : L F.slices_medianOrdered_int = some C.slices_medianOrdered_int := by kernel_rfl
theorem LF.slices_rotateCmpFunc_int : L F.slices_rotateCmpFunc_int = some C.slices_rotateCmpFunc_int := by kernel_rfl
theorem LF.code_all_api_BindCon : L F.code_all_api_BindCon = some C.code_all_api_BindCon := by kernel_rfl
theorem LF.code_constructors_c1 : L F.code_constructors_c1 = some C.code_constructors_c1 := by kernel_rfl
theorem LF.code_great : L F.code_great = some C.code_great := by kernel_rfl
theorem LF.slices_ContainsFunc_s_api_TermPat_api_TermPat : L F.slices_ContainsFunc_s_api_TermPat_api_TermPat = some C.slices_ContainsFunc_s_api_TermPat_api_TermPat := by kernel_rfl
theorem LF.code_all_api_TermPat_c1 : L F.code_all_api_TermPat_c1 = some C.code_all_api_TermPat_c1 := by kernel_rfl
theorem LF.code_pattern_c1 : L F.code_pattern_c1 = some C.code_pattern_c1 := by kernel_rfl
theorem LF.slices_ContainsFunc_s_api_CodeIns_api_CodeIns : L F.slices_ContainsFunc_s_api_CodeIns_api_CodeIns = some C.slices_ContainsFunc_s_api_CodeIns_api_CodeIns := by kernel_rfl
theorem LF.code_all_api_CodeIns_c1 : L F.code_all_api_CodeIns_c1 = some C.code_all_api_CodeIns_c1 := by kernel_rfl
theorem LF.code_bound : L F.code_bound = some C.code_bound := by kernel_rfl
theorem LF.slices_order2Ordered_int : L F.slices_order2Ordered_int = some C.slices_order2Ordered_int := by kernel_rfl
theorem LF.slices_swapRangeCmpFunc_int : L F.slices_swapRangeCmpFunc_int = some C.slices_swapRangeCmpFunc_int := by kernel_rfl
theorem LF.slices_ContainsFunc_s_api_BindCon_api_BindCon : L F.slices_ContainsFunc_s_api_BindCon_api_BindCon = some C.slices_ContainsFunc_s_api_BindCon_api_BindCon := by kernel_rfl
theorem LF.code_all_api_BindCon_c1 : L F.code_all_api_BindCon_c1 = some C.code_all_api_BindCon_c1 := by kernel_rfl
theorem LF.slices_IndexFunc_s_api_TermPat_api_TermPat : L F.slices_IndexFunc_s_api_TermPat_api_TermPat = some C.slices_IndexFunc_s_api_TermPat_api_TermPat := by kernel_rfl
theorem LF.slices_IndexFunc_s_api_CodeIns_api_CodeIns : L F.slices_IndexFunc_s_api_CodeIns_api_CodeIns = some C.slices_IndexFunc_s_api_CodeIns_api_CodeIns := by kernel_rfl
theorem LF.slices_IndexFunc_s_api_BindCon_api_BindCon : L F.slices_IndexFunc_s_api_BindCon_api_BindCon = some C.slices_IndexFunc_s_api_BindCon_api_BindCon := by kernel_rfl
theorem LF.code_wide_met : L F.code_wide_met = some C.code_wide_met := by kernel_rfl
theorem LF.code_least_met : L F.code_least_met = some C.code_least_met := by kernel_rfl
theorem LF.code_just_met : L F.code_just_met = some C.code_just_met := by kernel_rfl
end Go.Proofs.YtjcfpkokcepheaaGreatDoor
