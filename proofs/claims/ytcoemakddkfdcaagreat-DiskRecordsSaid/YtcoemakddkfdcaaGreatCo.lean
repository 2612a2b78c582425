/- The interpreter's text of the functions that are reached: made by program. -/
import Derived.Test.YtcoemakddkfdcaaGreatHxC
set_option linter.all false
namespace Go.Proofs.YtcoemakddkfdcaaGreat
open Go.Abs Go.Proofs
abbrev F.W16_DiskRecords : Nat := 3
abbrev F.W16_works : Nat := 4
abbrev F.disk_Bytes : Nat := 5
abbrev F.R16_Bytes : Nat := 6
abbrev F.disk_Record : Nat := 7
abbrev F.R16_Record : Nat := 8
abbrev F.W16_rec : Nat := 9
abbrev F.W16_put : Nat := 10
abbrev F.disk_Append : Nat := 11
abbrev F.W16_A : Nat := 12
abbrev F.W16_drop : Nat := 13
abbrev F.disk_Look : Nat := 14
abbrev F.W16_D : Nat := 15
abbrev F.disk_Clean : Nat := 16
abbrev F.W16_B : Nat := 17
abbrev F.disk_Gains : Nat := 18
abbrev F.R16_SameSteps : Nat := 19
abbrev F.W16_written : Nat := 20
abbrev F.W16_sync : Nat := 21
abbrev F.R16_SameState : Nat := 22
abbrev F.W16_erase : Nat := 23
abbrev F.disk_Do : Nat := 24
abbrev F.R16_SameList : Nat := 25
abbrev F.disk_fine : Nat := 26
abbrev F.disk_encode : Nat := 27
abbrev F.R16_Right : Nat := 28
abbrev F.R16_write : Nat := 29
abbrev F.disk_slot : Nat := 30
abbrev F.disk_decode : Nat := 31
abbrev F.R16_read : Nat := 32
abbrev F.disk_Append_c1 : Nat := 33
abbrev F.disk_said : Nat := 34
abbrev F.disk_opened : Nat := 35
abbrev F.slices_ContainsFunc_s_api_DiskChange_api_DiskChange : Nat := 36
abbrev F.disk_still : Nat := 37
abbrev F.disk_journal_deciding : Nat := 38
abbrev F.disk_batch_add : Nat := 39
abbrev F.disk_journal_loose : Nat := 40
abbrev F.disk_Append_c2 : Nat := 41
abbrev F.disk_journal_again : Nat := 42
abbrev F.disk_journal_empty : Nat := 43
abbrev F.disk_journal_steps : Nat := 44
abbrev F.R16_Append : Nat := 45
abbrev F.R16_Make : Nat := 46
abbrev F.R16_Do : Nat := 47
abbrev F.disk_look : Nat := 48
abbrev F.disk_journal_records : Nat := 49
abbrev F.disk_journal_counts : Nat := 50
abbrev F.R16_Crash : Nat := 51
abbrev F.disk_journal_gain : Nat := 52
abbrev F.disk_journal_moved : Nat := 53
abbrev F.disk_erase_step : Nat := 54
abbrev F.disk_sync_step : Nat := 55
abbrev F.disk_acted : Nat := 56
abbrev F.disk_device_allowed : Nat := 57
abbrev F.disk_device_do : Nat := 58
abbrev F.disk_device_closed : Nat := 59
abbrev F.disk_in : Nat := 60
abbrev F.R16_in : Nat := 61
abbrev F.R16_text : Nat := 62
abbrev F.R16_zeros : Nat := 63
abbrev F.slices_IndexFunc_s_api_DiskChange_api_DiskChange : Nat := 64
abbrev F.slices_Sort_s_int_int : Nat := 65
abbrev F.slices_Compact_s_int_int : Nat := 66
abbrev F.disk_write_step : Nat := 67
abbrev F.R16_change : Nat := 68
abbrev F.R16_wanted : Nat := 69
abbrev F.R16_log_loose : Nat := 70
abbrev F.R16_named : Nat := 71
abbrev F.R16_log_again : Nat := 72
abbrev F.R16_log_empties : Nat := 73
abbrev F.R16_log_written : Nat := 74
abbrev F.R16_Formed : Nat := 75
abbrev F.R16_stepped : Nat := 76
abbrev F.R16_allowed : Nat := 77
abbrev F.R16_settled : Nat := 78
abbrev F.slices_Clone_s_disk_act_disk_act : Nat := 79
abbrev F.disk_device_settle : Nat := 80
abbrev F.disk_journal_complete : Nat := 81
abbrev F.disk_journal_records_c1 : Nat := 82
abbrev F.R16_happened : Nat := 83
abbrev F.disk_journal_copies : Nat := 84
abbrev F.slices_ContainsFunc_s_disk_act_disk_act : Nat := 85
abbrev F.disk_device_allowed_c1 : Nat := 86
abbrev F.disk_device_allowed_c2 : Nat := 87
abbrev F.slices_pdqsortOrdered_int : Nat := 88
abbrev F.math_bits_Len : Nat := 89
abbrev F.R16_logged : Nat := 90
abbrev F.R16_log_decides : Nat := 91
abbrev F.R16_whole : Nat := 92
abbrev F.disk_device_crash : Nat := 93
abbrev F.R16_begun : Nat := 94
abbrev F.disk_placed_segment : Nat := 95
abbrev F.disk_journal_another : Nat := 96
abbrev F.slices_IndexFunc_s_disk_act_disk_act : Nat := 97
abbrev F.slices_insertionSortOrdered_int : Nat := 98
abbrev F.slices_heapSortOrdered_int : Nat := 99
abbrev F.slices_breakPatternsOrdered_int : Nat := 100
abbrev F.slices_choosePivotOrdered_int : Nat := 101
abbrev F.slices_reverseRangeOrdered_int : Nat := 102
abbrev F.slices_partialInsertionSortOrdered_int : Nat := 103
abbrev F.cmp_Less_int : Nat := 104
abbrev F.slices_partitionEqualOrdered_int : Nat := 105
abbrev F.slices_partitionOrdered_int : Nat := 106
abbrev F.math_bits_Len32 : Nat := 107
abbrev F.math_bits_Len64 : Nat := 108
abbrev F.R16_log_find : Nat := 109
abbrev F.R16_log_complete : Nat := 110
abbrev F.slices_siftDownOrdered_int : Nat := 111
abbrev F.slices_nextPowerOfTwo : Nat := 112
abbrev F.slices_xorshift_Next : Nat := 113
abbrev F.slices_medianAdjacentOrdered_int : Nat := 114
abbrev F.slices_medianOrdered_int : Nat := 115
abbrev F.cmp_isNaN_int : Nat := 116
abbrev F.slices_order2Ordered_int : Nat := 117
def C.W16_DiskRecords : LFunc := { np := 2,res := [.tmp 4],keep := false,body :=
 (.seq (.ops [bX 2 6 0,mC 4 (.bool false)])
 (.seq (.seq (.ops [fA 15 5 2,l1 16 15,o 17 (.len .str (.t 16)),bN 18 .gtr (.t 17) (cI 40),mT 19 18,gM 20 19 false 1,og 21 19 false (.len .str (.t 20)),
 gB 22 19 false .gtr (.t 21) (cI 40),pO 23 19 22])
 (.cond (.t 23)
 (.seq (.ops [cL 24 F.W16_works [],mT 4 24])
 .ret)
 .skip))
 (.seq (.ops [lT 26 6 2,cL 27 F.disk_Bytes [(.t 26)],mT 25 27,o 28 (.ext 0 (.t 25)),o 29 (.ext 1 (.t 25)),mT 5 28,mT 6 29])
 (.seq (.ops [lT 31 6 2,cL 32 F.R16_Bytes [(.t 31)],mT 30 32,o 33 (.ext 0 (.t 30)),o 34 (.ext 1 (.t 30)),mT 7 33,mT 8 34])
 (.seq (.ops [mT 36 1,cL 37 F.disk_Record [(.t 36)],mT 35 37,o 38 (.ext 0 (.t 35)),o 39 (.ext 1 (.t 35)),
 o 9 (.alloc [(.int .i64 0),(.int .i64 0),(.int .i64 0),(.int .i64 0),(.bool false),(.str ⟨#[]⟩)]),sT 6 9 38,mT 10 39])
 (.seq (.ops [mT 41 1,cL 42 F.R16_Record [(.t 41)],mT 40 42,o 43 (.ext 0 (.t 40)),o 44 (.ext 1 (.t 40)),
 o 11 (.alloc [(.int .i64 0),(.int .i64 0),(.int .i64 0),(.int .i64 0),(.bool false),(.str ⟨#[]⟩)]),sT 6 11 43,mT 12 44])
 (.seq (.seq (.ops [mT 45 5,mT 46 7,o 47 (.bin .neq .str (.t 45) (.t 46)),mT 48 47,gM 49 48 false 6,gM 50 48 false 8,gB 51 48 false .neq (.t 49) (.t 50),pO 52 48 51,
 mT 53 52,gT 54 53 false 6 9,gT 55 53 false 6 11,og 56 53 false (.bin .neq (.agg [.num,.num,.num,.num,.bool,.str]) (.t 54) (.t 55)),pO 57 53 56,mT 58 57,
 gM 59 58 false 10,gM 60 58 false 12,gB 61 58 false .neq (.t 59) (.t 60),pO 62 58 61])
 (.cond (.t 62)
 (.seq (.ops [mC 4 (.bool false)])
 .ret)
 .skip))
 (.seq (.seq (.ops [mT 63 6,bN 64 .eql (.t 63) (cI 0)])
 (.cond (.t 64)
 (.seq (.ops [mT 66 5,cL 67 F.disk_Record [(.t 66)],mT 65 67,o 68 (.ext 0 (.t 65)),o 69 (.ext 1 (.t 65)),
 o 13 (.alloc [(.int .i64 0),(.int .i64 0),(.int .i64 0),(.int .i64 0),(.bool false),(.str ⟨#[]⟩)]),sT 6 13 68,mT 14 69])
 (.seq (.ops [mT 70 14,bN 71 .eql (.t 70) (cI 0),mT 72 71,gT 73 72 true 6 13,gT 74 72 true 6 2,
 og 75 72 true (.bin .eql (.agg [.num,.num,.num,.num,.bool,.str]) (.t 73) (.t 74)),pA 76 72 75,mT 77 76,gL 78 77 true F.W16_works [],pA 79 77 78,mT 4 79])
 .ret))
 .skip))
 (.seq (.ops [cL 80 F.W16_works [],mT 4 80])
 .ret))))))))) }
def C.W16_works : LFunc := { np := 0,res := [.tmp 0],keep := false,body :=
 (.seq (.ops [mC 0 (.bool false)])
 (.seq (.ops [cL 16 F.W16_put [(cI 3),(.c (.str ⟨#[97,98]⟩))],cL 17 F.W16_rec [(cI 1),(cI 0),(cI 2),(.t 16)],cL 18 F.disk_Bytes [(.t 17)],mT 15 18,
 o 19 (.ext 0 (.t 15)),o 20 (.ext 1 (.t 15)),mT 1 19,mT 2 20])
 (.seq (.ops [cL 22 F.W16_A [],cL 23 F.W16_drop [(cI 3)],cL 24 F.W16_put [(cI 7),(.c (.str ⟨#[100]⟩))],
 o 25 (.bslice 2 3 [(.int .i64 0),(.bool false),(.str ⟨#[]⟩)] [(0,(.t 23)),(1,(.t 24))]),cL 26 F.disk_Append [(.t 22),(.t 25)],mT 21 26,o 27 (.ext 0 (.t 21)),
 o 28 (.ext 1 (.t 21)),mT 3 27,mT 4 28])
 (.seq (.ops [cL 30 F.W16_D [],cL 31 F.disk_Look [(.t 30)],mT 29 31,o 32 (.ext 0 (.t 29)),o 33 (.ext 1 (.t 29)),
 o 5 (.alloc [(.cl []),(.int .i64 0),(.int .i64 0),(.cl [])]),sT 4 5 32,mT 6 33])
 (.seq (.ops [cL 35 F.W16_B [],cL 36 F.disk_Clean [(.t 35)],mT 34 36,o 37 (.ext 0 (.t 34)),o 38 (.ext 1 (.t 34)),mT 7 37,mT 8 38])
 (.seq (.ops [cL 40 F.W16_D [],cL 41 F.disk_Gains [(.t 40)],mT 39 41,o 42 (.ext 0 (.t 39)),o 43 (.ext 1 (.t 39)),mT 9 42,mT 10 43])
 (.seq (.ops [cL 45 F.W16_D [],cL 46 F.W16_put [(cI 5),(.c (.str ⟨#[101]⟩))],o 47 (.bslice 1 3 [(.int .i64 0),(.bool false),(.str ⟨#[]⟩)] [(0,(.t 46))]),
 cL 48 F.disk_Append [(.t 45),(.t 47)],mT 44 48,o 49 (.ext 0 (.t 44)),o 50 (.ext 1 (.t 44)),mT 11 49,mT 12 50])
 (.seq (.seq (.ops [mT 51 2,bN 52 .neq (.t 51) (cI 0),mT 53 52,gM 54 53 false 4,gB 55 53 false .neq (.t 54) (cI 0),pO 56 53 55,mT 57 56,gM 58 57 false 6,
 gB 59 57 false .neq (.t 58) (cI 0),pO 60 57 59,mT 61 60,gM 62 61 false 8,gB 63 61 false .neq (.t 62) (cI 0),pO 64 61 63,mT 65 64,gM 66 65 false 10,
 gB 67 65 false .neq (.t 66) (cI 0),pO 68 65 67,mT 69 68,gM 70 69 false 12,gB 71 69 false .neq (.t 70) (cI 0),pO 72 69 71])
 (.cond (.t 72)
 (.seq (.ops [mC 0 (.bool false)])
 .ret)
 .skip))
 (.seq (.seq (.ops [mT 73 1,o 74 (.bin .neq .str (.t 73) (.c (.str ⟨#[90,0,0,0,1,0,2,3,1,2,97,98,0,0,0,0,0,0,0,0,0,0,0,165]⟩))),mT 75 74,gM 76 75 false 3,
 gL 77 75 false F.W16_drop [(cI 3)],gL 78 75 false F.W16_rec [(cI 3),(cI 0),(cI 2),(.t 77)],gL 79 75 false F.W16_written [(cI 2),(.t 78)],
 gL 80 75 false F.W16_put [(cI 7),(.c (.str ⟨#[100]⟩))],gL 81 75 false F.W16_rec [(cI 4),(cI 1),(cI 2),(.t 80)],gL 82 75 false F.W16_written [(cI 3),(.t 81)],
 gL 83 75 false F.W16_sync [],og 84 75 false (.bslice 3 3 [(.int .i64 0),(.int .i64 0),(.str ⟨#[]⟩)] [(0,(.t 79)),(1,(.t 82)),(2,(.t 83))]),
 gL 85 75 false F.R16_SameSteps [(.t 76),(.t 84)],og 86 75 false (.un .not (.t 85)),pO 87 75 86])
 (.cond (.t 87)
 (.seq (.ops [mC 0 (.bool false)])
 .ret)
 .skip))
 (.seq (.seq (.ops [lT 88 4 5,o 89 (.build [(.int .i64 0),(.str ⟨#[]⟩)] [(0,1,(cI 3)),(1,1,(.c (.str ⟨#[97,98]⟩)))]),
 o 90 (.build [(.int .i64 0),(.str ⟨#[]⟩)] [(0,1,(cI 5)),(1,1,(.c (.str ⟨#[99]⟩)))]),o 91 (.bslice 2 2 [(.int .i64 0),(.str ⟨#[]⟩)] [(0,(.t 89)),(1,(.t 90))]),
 o 92 (.bslice 1 1 [(.int .i64 0)] [(0,(cI 2))]),o 93 (.build [(.cl []),(.int .i64 0),(.int .i64 0),(.cl [])] [(0,1,(.t 91)),(1,1,(cI 2)),(2,1,(cI 4)),(3,1,(.t 92))]),
 cL 94 F.R16_SameState [(.t 88),(.t 93)],nT 95 94,mT 96 95,gM 97 96 false 7,gL 98 96 false F.W16_drop [(cI 3)],gL 99 96 false F.W16_rec [(cI 5),(cI 0),(cI 3),(.t 98)],
 gL 100 96 false F.W16_written [(cI 8),(.t 99)],gL 101 96 false F.W16_put [(cI 5),(.c (.str ⟨#[99]⟩))],gL 102 96 false F.W16_rec [(cI 6),(cI 1),(cI 3),(.t 101)],
 gL 103 96 false F.W16_written [(cI 9),(.t 102)],gL 104 96 false F.W16_put [(cI 7),(.c (.str ⟨#[100]⟩))],gL 105 96 false F.W16_rec [(cI 7),(cI 2),(cI 3),(.t 104)],
 gL 106 96 false F.W16_written [(cI 10),(.t 105)],gL 107 96 false F.W16_sync [],gL 108 96 false F.W16_erase [(cI 0)],gL 109 96 false F.W16_sync [],
 og 110 96 false (.bslice 6 3 [(.int .i64 0),(.int .i64 0),(.str ⟨#[]⟩)] [(0,(.t 100)),(1,(.t 103)),(2,(.t 106)),(3,(.t 107)),(4,(.t 108)),(5,(.t 109))]),
 gL 111 96 false F.R16_SameSteps [(.t 97),(.t 110)],og 112 96 false (.un .not (.t 111)),pO 113 96 112])
 (.cond (.t 113)
 (.seq (.ops [mC 0 (.bool false)])
 .ret)
 .skip))
 (.seq (.ops [cL 115 F.W16_A [],cL 116 F.W16_erase [(cI 0)],cL 117 F.W16_drop [(cI 3)],cL 118 F.W16_rec [(cI 3),(cI 0),(cI 1),(.t 117)],
 cL 119 F.W16_written [(cI 2),(.t 118)],o 120 (.bslice 2 3 [(.int .i64 0),(.int .i64 0),(.str ⟨#[]⟩)] [(0,(.t 116)),(1,(.t 119))]),cL 121 F.disk_Do [(.t 115),(.t 120)],
 mT 114 121,o 122 (.ext 0 (.t 114)),o 123 (.ext 1 (.t 114)),o 124 (.ext 2 (.t 114)),o 13 (.alloc [(.cl []),(.cl [])]),sT 2 13 122,mT 14 123,mT 2 124])
 (.seq (.ops [mT 125 9,o 126 (.bslice 6 1 [(.int .i64 0)] [(0,(cI 2)),(1,(cI 0)),(2,(cI 0)),(3,(cI 0)),(4,(cI 0)),(5,(cI 0))]),
 cL 127 F.R16_SameList [(.t 125),(.t 126)],mT 128 127,gM 129 128 true 11,gL 130 128 true F.W16_put [(cI 3),(.c (.str ⟨#[97,98]⟩))],
 gL 131 128 true F.W16_rec [(cI 4),(cI 0),(cI 2),(.t 130)],gL 132 128 true F.W16_written [(cI 4),(.t 131)],gL 133 128 true F.W16_put [(cI 5),(.c (.str ⟨#[101]⟩))],
 gL 134 128 true F.W16_rec [(cI 5),(cI 1),(cI 2),(.t 133)],gL 135 128 true F.W16_written [(cI 5),(.t 134)],gL 136 128 true F.W16_sync [],
 og 137 128 true (.bslice 3 3 [(.int .i64 0),(.int .i64 0),(.str ⟨#[]⟩)] [(0,(.t 132)),(1,(.t 135)),(2,(.t 136))]),gL 138 128 true F.R16_SameSteps [(.t 129),(.t 137)],
 pA 139 128 138,mT 140 139,gM 141 140 true 14,gB 142 140 true .eql (.t 141) (cI 1),pA 143 140 142,mT 144 143,gM 145 144 true 2,gB 146 144 true .eql (.t 145) (cI 7),
 pA 147 144 146,mT 0 147])
 .ret)))))))))))) }
def C.disk_Bytes : LFunc := { np := 1,res := [.tmp 2,.tmp 3],keep := false,body :=
 (.seq (.ops [bX 1 6 0,mC 2 (.str ⟨#[]⟩),mC 3 (.int .i64 0)])
 (.seq (.seq (.ops [lT 5 6 1,cL 6 F.disk_fine [(.t 5)],nT 7 6])
 (.cond (.t 7)
 (.seq (.ops [mC 2 (.str ⟨#[]⟩),mC 3 (.int .i64 2)])
 .ret)
 .skip))
 (.seq (.ops [lT 8 6 1,cL 9 F.disk_encode [(.t 8)],o 4 (.alloc (List.replicate 24 (.int .u8 0))),sT 24 4 9])
 (.seq (.ops [o 10 (.sla 24 1 false (.t 4) none none),o 11 (.b2s (.t 10)),mT 2 11,mC 3 (.int .i64 0)])
 .ret)))) }
def C.R16_Bytes : LFunc := { np := 1,res := [.tmp 2,.tmp 3],keep := false,body :=
 (.seq (.ops [bX 1 6 0,mC 2 (.str ⟨#[]⟩),mC 3 (.int .i64 0)])
 (.seq (.seq (.ops [lT 4 6 1,cL 5 F.R16_Right [(.t 4)],nT 6 5])
 (.cond (.t 6)
 (.seq (.ops [mC 2 (.str ⟨#[]⟩),mC 3 (.int .i64 2)])
 .ret)
 .skip))
 (.seq (.ops [lT 7 6 1,cL 8 F.R16_write [(.t 7)],mT 2 8,mC 3 (.int .i64 0)])
 .ret))) }
def C.disk_Record : LFunc := { np := 1,res := [.cell 2 true 6,.tmp 3],keep := false,body :=
 (.seq (.ops [o 2 (.alloc [(.int .i64 0),(.int .i64 0),(.int .i64 0),(.int .i64 0),(.bool false),(.str ⟨#[]⟩)]),mC 3 (.int .i64 0)])
 (.seq (.seq (.ops [mT 6 0,o 7 (.len .str (.t 6)),bN 8 .neq (.t 7) (cI 24)])
 (.cond (.t 8)
 (.seq (.ops [o 9 (.build [(.int .i64 0),(.int .i64 0),(.int .i64 0),(.int .i64 0),(.bool false),(.str ⟨#[]⟩)] []),sT 6 2 9,mC 3 (.int .i64 2)])
 .ret)
 .skip))
 (.seq (.seq (.ops [mT 10 0,cL 11 F.disk_slot [(.t 10)],o 12 (.build (List.replicate 24 (.int .u8 0)) []),
 o 13 (.bin .eql (.agg [.num,.num,.num,.num,.num,.num,.num,.num,.num,.num,.num,.num,.num,.num,.num,.num,.num,.num,.num,.num,.num,.num,.num,.num]) (.t 11) (.t 12))])
 (.cond (.t 13)
 (.seq (.ops [o 14 (.build [(.int .i64 0),(.int .i64 0),(.int .i64 0),(.int .i64 0),(.bool false),(.str ⟨#[]⟩)] []),sT 6 2 14,mC 3 (.int .i64 5)])
 .ret)
 .skip))
 (.seq (.ops [mT 16 0,cL 17 F.disk_slot [(.t 16)],cL 18 F.disk_decode [(.t 17)],mT 15 18,o 19 (.ext 0 (.t 15)),o 20 (.ext 1 (.t 15)),
 o 4 (.alloc [(.int .i64 0),(.int .i64 0),(.int .i64 0),(.int .i64 0),(.bool false),(.str ⟨#[]⟩)]),sT 6 4 19,mT 5 20])
 (.seq (.seq (.ops [mT 21 5,nT 22 21])
 (.cond (.t 22)
 (.seq (.ops [o 23 (.build [(.int .i64 0),(.int .i64 0),(.int .i64 0),(.int .i64 0),(.bool false),(.str ⟨#[]⟩)] []),sT 6 2 23,mC 3 (.int .i64 4)])
 .ret)
 .skip))
 (.seq (.ops [lT 24 6 4,sT 6 2 24,mC 3 (.int .i64 0)])
 .ret)))))) }
def C.R16_Record : LFunc := { np := 1,res := [.cell 2 true 6,.tmp 3],keep := false,body :=
 (.seq (.ops [o 2 (.alloc [(.int .i64 0),(.int .i64 0),(.int .i64 0),(.int .i64 0),(.bool false),(.str ⟨#[]⟩)]),mC 3 (.int .i64 0)])
 (.seq (.seq (.ops [mT 6 0,o 7 (.len .str (.t 6)),bN 8 .neq (.t 7) (cI 24)])
 (.cond (.t 8)
 (.seq (.ops [o 9 (.build [(.int .i64 0),(.int .i64 0),(.int .i64 0),(.int .i64 0),(.bool false),(.str ⟨#[]⟩)] []),sT 6 2 9,mC 3 (.int .i64 2)])
 .ret)
 .skip))
 (.seq (.seq (.ops [mT 10 0,o 11 (.bin .eql .str (.t 10) (.c (.str ⟨#[0,0,0,0,0,0,0,0,0,0,0,0,0,0,0,0,0,0,0,0,0,0,0,0]⟩)))])
 (.cond (.t 11)
 (.seq (.ops [o 12 (.build [(.int .i64 0),(.int .i64 0),(.int .i64 0),(.int .i64 0),(.bool false),(.str ⟨#[]⟩)] []),sT 6 2 12,mC 3 (.int .i64 5)])
 .ret)
 .skip))
 (.seq (.ops [mT 14 0,cL 15 F.R16_read [(.t 14)],mT 13 15,o 16 (.ext 0 (.t 13)),o 17 (.ext 1 (.t 13)),
 o 4 (.alloc [(.int .i64 0),(.int .i64 0),(.int .i64 0),(.int .i64 0),(.bool false),(.str ⟨#[]⟩)]),sT 6 4 16,mT 5 17])
 (.seq (.seq (.ops [mT 18 5,nT 19 18])
 (.cond (.t 19)
 (.seq (.ops [o 20 (.build [(.int .i64 0),(.int .i64 0),(.int .i64 0),(.int .i64 0),(.bool false),(.str ⟨#[]⟩)] []),sT 6 2 20,mC 3 (.int .i64 4)])
 .ret)
 .skip))
 (.seq (.ops [lT 21 6 4,sT 6 2 21,mC 3 (.int .i64 0)])
 .ret)))))) }
def C.W16_rec : LFunc := { np := 4,res := [.cell 8 true 6],keep := false,body :=
 (.seq (.ops [bX 7 3 3,o 8 (.alloc [(.int .i64 0),(.int .i64 0),(.int .i64 0),(.int .i64 0),(.bool false),(.str ⟨#[]⟩)])])
 (.seq (.ops [mT 9 0,mT 10 1,mT 11 2,fA 12 0 7,l1 13 12,fA 14 1 7,l1 15 14,fA 16 2 7,l1 17 16,
 o 18 (.build [(.int .i64 0),(.int .i64 0),(.int .i64 0),(.int .i64 0),(.bool false),(.str ⟨#[]⟩)] [(0,1,(.t 9)),(1,1,(.t 10)),(2,1,(.t 11)),(3,1,(.t 13)),(4,1,(.t 15)),(5,1,(.t 17))]),
 sT 6 8 18])
 .ret)) }
def C.W16_put : LFunc := { np := 2,res := [.cell 4 true 3],keep := false,body :=
 (.seq (.ops [o 4 (.alloc [(.int .i64 0),(.bool false),(.str ⟨#[]⟩)])])
 (.seq (.ops [mT 5 0,mT 6 1,o 7 (.build [(.int .i64 0),(.bool false),(.str ⟨#[]⟩)] [(0,1,(.t 5)),(1,1,(cB true)),(2,1,(.t 6))]),sT 3 4 7])
 .ret)) }
def C.disk_Append : LFunc := { np := 2,res := [.tmp 4,.tmp 5],keep := false,body :=
 (.seq (.ops [bX 2 2 0,mC 4 (.cl []),mC 5 (.int .i64 0)])
 (.seq (.seq (.ops [mT 24 1,lN 25 24,bN 26 .gtr (.t 25) (cI 6)])
 (.cond (.t 26)
 (.seq (.ops [mC 4 (.cl []),mC 5 (.int .i64 3)])
 .ret)
 .skip))
 (.seq (.ops [o 6 (.mv (.f F.disk_Append_c1))])
 (.seq (.seq (.ops [lT 28 2 2,o 29 (.icall (.f F.disk_opened) [(.t 28)]),mT 27 29,o 30 (.ext 0 (.t 27)),o 31 (.ext 1 (.t 27)),mT 7 30,mT 8 31])
 (.seq (.ops [mT 32 8,nT 33 32,mT 34 33,gM 35 34 false 1,gM 36 34 false 6,gL 37 34 false F.slices_ContainsFunc_s_api_DiskChange_api_DiskChange [(.t 35),(.t 36)],
 pO 38 34 37])
 (.cond (.t 38)
 (.seq (.ops [mC 4 (.cl []),mC 5 (.int .i64 2)])
 .ret)
 .skip)))
 (.seq (.ops [lT 40 2 2,cL 41 F.disk_still [(.t 40)],mT 39 41,o 42 (.ext 0 (.t 39)),o 43 (.ext 1 (.t 39)),mT 9 42,mT 10 43])
 (.seq (.seq (.ops [mT 44 10,bN 45 .neq (.t 44) (cI 0)])
 (.cond (.t 45)
 (.seq (.ops [mT 46 10,mC 4 (.cl []),mT 5 46])
 .ret)
 .skip))
 (.seq (.ops [o 47 (.mkmap),mT 11 47])
 (.seq (.seq (.ops [mC 48 (.int .i64 0)])
 (.block 0 (.loop (.seq (.ops [bN 49 .lss (.t 48) (cI 16)])
 (.seq (.cond (.t 49)
 .skip
 (.exit 0))
 (.seq (.block 1 (.seq (.ops [mT 50 48,mT 12 50])
 (.seq (.ops [mT 52 9,mT 53 12,cL 54 F.disk_journal_deciding [(.t 52),(.t 53)],mT 51 54,o 55 (.ext 0 (.t 51)),o 56 (.ext 1 (.t 51)),
 o 13 (.alloc [(.int .i64 0),(.int .i64 0),(.int .i64 0),(.int .i64 0),(.bool false),(.str ⟨#[]⟩),(.int .i64 0)]),sT 7 13 55,mT 14 56])
 (.ops [mT 57 11,mT 58 12,mT 59 14,mT 60 59,gF 61 60 true 0 13,gF 62 60 true 4 61,g1 63 60 true 62,pA 64 60 63,on (.mput .num (.t 57) (.t 58) (.t 64))]))))
 (.ops [bN 65 .add (.t 48) (cI 1),mT 48 65])))))))
 (.seq (.seq (.ops [mT 66 1,lN 67 66,mC 68 (.int .i64 0)])
 (.block 2 (.loop (.seq (.ops [bN 69 .lss (.t 68) (.t 67)])
 (.seq (.cond (.t 69)
 .skip
 (.exit 2))
 (.seq (.block 3 (.seq (.ops [iA 70 3 66 68,lT 71 3 70,o 16 (.alloc [(.int .i64 0),(.bool false),(.str ⟨#[]⟩)]),sT 3 16 71])
 (.seq (.seq (.ops [fA 72 1 16,l1 73 72,nT 74 73,mT 75 74,gM 76 75 true 11,gF 77 75 true 0 16,g1 78 75 true 77,
 og 79 75 true (.mget .num (.bool false) false (.t 76) (.t 78)),og 80 75 true (.un .not (.t 79)),pA 81 75 80])
 (.cond (.t 81)
 (.seq (.ops [mC 4 (.cl []),mC 5 (.int .i64 5)])
 .ret)
 .skip))
 (.ops [mT 82 11,fA 83 0 16,l1 84 83,fA 85 1 16,l1 86 85,on (.mput .num (.t 82) (.t 84) (.t 86))]))))
 (.ops [bN 87 .add (.t 68) (cI 1),mT 68 87])))))))
 (.seq (.seq (.ops [mT 88 1,lN 89 88,bN 90 .eql (.t 89) (cI 0)])
 (.cond (.t 90)
 (.seq (.ops [mC 4 (.cl []),mC 5 (.int .i64 0)])
 .ret)
 .skip))
 (.seq (.ops [o 17 (.alloc [(.cl [])])])
 (.seq (.ops [o 91 (.mkfn F.disk_batch_add [(.t 17)] []),mT 18 91])
 (.seq (.seq (.ops [mT 92 9,cL 93 F.disk_journal_loose [(.t 92)],lN 94 93,mC 95 (.int .i64 0)])
 (.block 4 (.loop (.seq (.ops [bN 96 .lss (.t 95) (.t 94)])
 (.seq (.cond (.t 96)
 .skip
 (.exit 4))
 (.seq (.block 5 (.seq (.ops [iA 97 1 93 95,l1 98 97,o 20 (.alloc [(.int .i64 0)]),sT 1 20 98])
 (.seq (.ops [mT 99 1,o 100 (.mkfn F.disk_Append_c2 [] [(.t 20)]),cL 101 F.slices_ContainsFunc_s_api_DiskChange_api_DiskChange [(.t 99),(.t 100)],nT 102 101])
 (.cond (.t 102)
 (.ops [mT 103 18,mT 104 9,l1 105 20,cL 106 F.disk_journal_again [(.t 104),(.t 105)],o 107 (.icall (.t 103) [(.t 106)])])
 .skip))))
 (.ops [bN 108 .add (.t 95) (cI 1),mT 95 108])))))))
 (.seq (.seq (.ops [mT 109 1,lN 110 109,mC 111 (.int .i64 0)])
 (.block 6 (.loop (.seq (.ops [bN 112 .lss (.t 111) (.t 110)])
 (.seq (.cond (.t 112)
 .skip
 (.exit 6))
 (.seq (.block 7 (.seq (.ops [iA 113 3 109 111,lT 114 3 113,o 22 (.alloc [(.int .i64 0),(.bool false),(.str ⟨#[]⟩)]),sT 3 22 114])
 (.ops [mT 115 18,fA 116 0 22,l1 117 116,fA 118 1 22,l1 119 118,fA 120 2 22,l1 121 120,
 o 122 (.build [(.int .i64 0),(.int .i64 0),(.int .i64 0),(.int .i64 0),(.bool false),(.str ⟨#[]⟩)] [(3,1,(.t 117)),(4,1,(.t 119)),(5,1,(.t 121))]),
 o 123 (.icall (.t 115) [(.t 122)])])))
 (.ops [bN 124 .add (.t 111) (cI 1),mT 111 124])))))))
 (.seq (.ops [mT 125 9,cL 126 F.disk_journal_empty [(.t 125),(cI (-1))],mT 23 126])
 (.seq (.seq (.draw [mT 127 9,nK 128 127,fA 129 1154 128,l1 130 129,fA 131 0 17,l1 132 131,lN 133 132,bN 134 .add (.t 130) (.t 133),bN 135 .sub (.t 134) (cI 1),
 bN 136 .leq (.t 135) (cI 1000000000),mT 137 136,gM 138 137 true 23,gN 139 137 true 138,gF 140 137 true 0 17,g1 141 137 true 140,gN 142 137 true 141,
 gB 143 137 true .sub (.t 139) (.t 142),gB 144 137 true .lss (.t 143) (cI 8),pA 145 137 144]
 [])
 (.cond (.t 145)
 (.seq (.ops [mC 4 (.cl []),mC 5 (.int .i64 8)])
 .ret)
 .skip))
 (.seq (.ops [mT 146 9,lT 147 1 17,mT 148 23,o 149 (.icall (.f F.disk_journal_steps) [(.t 146),(.t 147),(.t 148)]),o 150 (.ext 0 (.t 149)),o 151 (.ext 1 (.t 149)),
 mT 4 150,mT 5 151])
 .ret))))))))))))))))) }
def C.W16_A : LFunc := { np := 0,res := [.cell 0 true 2],keep := false,body :=
 (.seq (.ops [o 0 (.alloc [(.cl []),(.cl [])])])
 (.seq (.ops [cL 7 F.R16_Make [],cL 8 F.W16_put [(cI 3),(.c (.str ⟨#[97,98]⟩))],cL 9 F.W16_put [(cI 5),(.c (.str ⟨#[99]⟩))],
 o 10 (.bslice 2 3 [(.int .i64 0),(.bool false),(.str ⟨#[]⟩)] [(0,(.t 8)),(1,(.t 9))]),cL 11 F.R16_Append [(.t 7),(.t 10)],mT 6 11,o 12 (.ext 0 (.t 6)),
 o 13 (.ext 1 (.t 6)),mT 1 12,mT 2 13])
 (.seq (.ops [cL 15 F.R16_Make [],mT 16 1,cL 17 F.R16_Do [(.t 15),(.t 16)],mT 14 17,o 18 (.ext 0 (.t 14)),o 19 (.ext 1 (.t 14)),o 20 (.ext 2 (.t 14)),
 o 3 (.alloc [(.cl []),(.cl [])]),sT 2 3 18,mT 4 19,mT 5 20])
 (.seq (.ops [lT 21 2 3,sT 2 0 21])
 .ret)))) }
def C.W16_drop : LFunc := { np := 1,res := [.cell 2 true 3],keep := false,body :=
 (.seq (.ops [o 2 (.alloc [(.int .i64 0),(.bool false),(.str ⟨#[]⟩)])])
 (.seq (.ops [mT 3 0,o 4 (.build [(.int .i64 0),(.bool false),(.str ⟨#[]⟩)] [(0,1,(.t 3))]),sT 3 2 4])
 .ret)) }
def C.disk_Look : LFunc := { np := 1,res := [.cell 2 true 4,.tmp 3],keep := false,body :=
 (.seq (.ops [bX 1 2 0,o 2 (.alloc [(.cl []),(.int .i64 0),(.int .i64 0),(.cl [])]),mC 3 (.int .i64 0)])
 (.seq (.ops [lT 13 2 1,o 14 (.icall (.f F.disk_opened) [(.t 13)]),mT 12 14,o 15 (.ext 0 (.t 12)),o 16 (.ext 1 (.t 12)),mT 4 15,mT 5 16])
 (.seq (.seq (.ops [mT 17 5,nT 18 17])
 (.cond (.t 18)
 (.seq (.ops [o 19 (.build [(.cl []),(.int .i64 0),(.int .i64 0),(.cl [])] []),sT 4 2 19,mC 3 (.int .i64 2)])
 .ret)
 .skip))
 (.seq (.ops [mT 21 4,cL 22 F.disk_look [(.t 21)],mT 20 22,o 23 (.ext 0 (.t 20)),o 24 (.ext 1 (.t 20)),o 6 (.alloc [.nilp]),sT 1 6 23,mT 5 24])
 (.seq (.seq (.ops [mT 25 5,nT 26 25])
 (.cond (.t 26)
 (.seq (.ops [o 27 (.build [(.cl []),(.int .i64 0),(.int .i64 0),(.cl [])] []),sT 4 2 27,mC 3 (.int .i64 4)])
 .ret)
 .skip))
 (.seq (.draw [l1 28 6,nK 29 28,fA 30 1153 29,l1 31 30,l1 32 6,nK 33 32,fA 34 1154 33,l1 35 34,
 o 36 (.build [(.cl []),(.int .i64 0),(.int .i64 0),(.cl [])] [(1,1,(.t 31)),(2,1,(.t 35))]),o 7 (.alloc [(.cl []),(.int .i64 0),(.int .i64 0),(.cl [])]),sT 4 7 36]
 [(0,9),(3,9),(4,9),(7,9)])
 (.seq (.seq (.ops [mC 37 (.int .i64 0)])
 (.block 0 (.loop (.seq (.ops [bN 38 .lss (.t 37) (cI 16)])
 (.seq (.cond (.t 38)
 .skip
 (.exit 0))
 (.seq (.block 1 (.seq (.ops [mT 39 37,mT 8 39])
 (.seq (.ops [l1 41 6,mT 42 8,cL 43 F.disk_journal_deciding [(.t 41),(.t 42)],mT 40 43,o 44 (.ext 0 (.t 40)),o 45 (.ext 1 (.t 40)),
 o 9 (.alloc [(.int .i64 0),(.int .i64 0),(.int .i64 0),(.int .i64 0),(.bool false),(.str ⟨#[]⟩),(.int .i64 0)]),sT 7 9 44,mT 10 45])
 (.seq (.ops [mT 46 10,mT 47 46,gF 48 47 true 0 9,gF 49 47 true 4 48,g1 50 47 true 49,pA 51 47 50])
 (.cond (.t 51)
 (.ops [fA 52 0 7,l1 53 52,mT 54 8,fA 55 0 9,fA 56 5 55,l1 57 56,o 58 (.build [(.int .i64 0),(.str ⟨#[]⟩)] [(0,1,(.t 54)),(1,1,(.t 57))]),
 o 59 (.bslice 1 2 [(.int .i64 0),(.str ⟨#[]⟩)] [(0,(.t 58))]),o 60 (.append 2 (.t 53) (.t 59)),fA 61 0 7,sT 1 61 60])
 .skip)))))
 (.ops [bN 62 .add (.t 37) (cI 1),mT 37 62])))))))
 (.seq (.seq (.ops [l1 63 6,o 64 (.icall (.f F.disk_journal_records) [(.t 63)])])
 (.block 2 (.rangeF (.t 64) [65]
 (.ops [o 11 (.alloc [(.int .i64 0),(.int .i64 0),(.int .i64 0),(.int .i64 0),(.bool false),(.str ⟨#[]⟩),(.int .i64 0)]),sT 7 11 65])
 (.block 3 (.seq (.ops [l1 66 6,lT 67 7 11,cL 68 F.disk_journal_counts [(.t 66),(.t 67)],nT 69 68])
 (.cond (.t 69)
 (.ops [fA 70 3 7,l1 71 70,fA 72 6 11,l1 73 72,o 74 (.bslice 1 1 [(.int .i64 0)] [(0,(.t 73))]),o 75 (.append 1 (.t 71) (.t 74)),fA 76 3 7,sT 1 76 75])
 .skip))))))
 (.seq (.ops [lT 77 4 7,sT 4 2 77,mC 3 (.int .i64 0)])
 .ret))))))))) }
def C.W16_D : LFunc := { np := 0,res := [.cell 0 true 2],keep := false,body :=
 (.seq (.ops [o 0 (.alloc [(.cl []),(.cl [])])])
 (.seq (.ops [cL 7 F.W16_A [],cL 8 F.W16_drop [(cI 3)],cL 9 F.W16_put [(cI 7),(.c (.str ⟨#[100]⟩))],
 o 10 (.bslice 2 3 [(.int .i64 0),(.bool false),(.str ⟨#[]⟩)] [(0,(.t 8)),(1,(.t 9))]),cL 11 F.R16_Append [(.t 7),(.t 10)],mT 6 11,o 12 (.ext 0 (.t 6)),
 o 13 (.ext 1 (.t 6)),mT 1 12,mT 2 13])
 (.seq (.draw [cL 15 F.W16_A [],mT 16 1,o 17 (.slice false 3 (.t 16) none (some (cI 2)) none),cL 18 F.R16_Do [(.t 15),(.t 17)],mT 14 18,o 19 (.ext 0 (.t 14)),
 o 20 (.ext 1 (.t 14)),o 21 (.ext 2 (.t 14)),o 3 (.alloc [(.cl []),(.cl [])]),sT 2 3 19,mT 4 20,mT 5 21]
 [(0,2),(0,8),(2,8),(3,8)])
 (.seq (.ops [lT 23 2 3,o 24 (.bslice 2 1 [(.int .i64 0)] [(0,(cI 24)),(1,(cI 5))]),cL 25 F.R16_Crash [(.t 23),(.t 24)],mT 22 25,o 26 (.ext 0 (.t 22)),
 o 27 (.ext 1 (.t 22)),sT 2 3 26])
 (.seq (.ops [lT 28 2 3,sT 2 0 28])
 .ret))))) }
def C.disk_Clean : LFunc := { np := 1,res := [.tmp 2,.tmp 3],keep := false,body :=
 (.seq (.ops [bX 1 2 0,mC 2 (.cl []),mC 3 (.int .i64 0)])
 (.seq (.ops [lT 13 2 1,cL 14 F.disk_still [(.t 13)],mT 12 14,o 15 (.ext 0 (.t 12)),o 16 (.ext 1 (.t 12)),mT 4 15,mT 5 16])
 (.seq (.seq (.ops [mT 17 5,bN 18 .neq (.t 17) (cI 0)])
 (.cond (.t 18)
 (.seq (.ops [mT 19 5,mC 2 (.cl []),mT 3 19])
 .ret)
 .skip))
 (.seq (.ops [mC 6 (.int .i64 (-1)),mC 7 (.int .i64 0)])
 (.seq .skip
 (.seq (.seq (.ops [mC 20 (.int .i64 0)])
 (.block 0 (.loop (.seq (.ops [bN 21 .lss (.t 20) (cI 6)])
 (.seq (.cond (.t 21)
 .skip
 (.exit 0))
 (.seq (.block 1 (.seq (.ops [mT 22 20,mT 8 22])
 (.seq (.ops [mT 23 4,mT 24 8,cL 25 F.disk_journal_gain [(.t 23),(.t 24)],mT 9 25])
 (.seq (.seq (.ops [mT 26 9,mT 27 7,bN 28 .leq (.t 26) (.t 27),mT 29 28,gM 30 29 false 4,gM 31 29 false 8,gL 32 29 false F.disk_journal_moved [(.t 30),(.t 31)],
 og 33 29 false (.fld false 0 1 (.t 32)),gN 34 29 false 33,gM 35 29 false 4,gM 36 29 false 8,gL 37 29 false F.disk_journal_empty [(.t 35),(.t 36)],gN 38 29 false 37,
 gB 39 29 false .gtr (.t 34) (.t 38),pO 40 29 39])
 (.cond (.t 40)
 (.exit 1)
 .skip))
 (.ops [mT 41 8,mT 42 9,mT 6 41,mT 7 42])))))
 (.ops [bN 43 .add (.t 20) (cI 1),mT 20 43])))))))
 (.seq (.seq (.ops [mT 44 6,bN 45 .lss (.t 44) (cI 0)])
 (.cond (.t 45)
 (.seq (.ops [mC 2 (.cl []),mC 3 (.int .i64 5)])
 .ret)
 .skip))
 (.seq (.ops [mC 10 (.cl [])])
 (.seq (.seq (.ops [mT 46 4,mT 47 6,cL 48 F.disk_journal_moved [(.t 46),(.t 47)],o 11 (.alloc [(.cl [])]),sT 1 11 48])
 (.seq (.ops [fA 49 0 11,l1 50 49,lN 51 50,bN 52 .gtr (.t 51) (cI 0)])
 (.cond (.t 52)
 (.seq (.draw [mT 54 4,lT 55 1 11,mT 56 4,mT 57 6,cL 58 F.disk_journal_empty [(.t 56),(.t 57)],o 59 (.icall (.f F.disk_journal_steps) [(.t 54),(.t 55),(.t 58)]),
 mT 53 59,o 60 (.ext 0 (.t 53)),o 61 (.ext 1 (.t 53)),mT 10 60,mT 5 61]
 [(1,4)])
 (.seq (.ops [mT 62 5,bN 63 .neq (.t 62) (cI 0)])
 (.cond (.t 63)
 (.seq (.ops [mT 64 5,mC 2 (.cl []),mT 3 64])
 .ret)
 .skip)))
 .skip)))
 (.seq (.ops [mT 65 10,mT 66 6,o 67 (.build [(.int .i64 0)] [(0,1,(.t 66))]),cL 68 F.disk_erase_step [(.t 67)],o 69 (.build [] []),cL 70 F.disk_sync_step [(.t 69)],
 o 71 (.bslice 2 3 [(.int .i64 0),(.int .i64 0),(.str ⟨#[]⟩)] [(0,(.t 68)),(1,(.t 70))]),o 72 (.append 3 (.t 65) (.t 71)),mT 2 72,mC 3 (.int .i64 0)])
 .ret)))))))))) }
def C.W16_B : LFunc := { np := 0,res := [.cell 0 true 2],keep := false,body :=
 (.seq (.ops [o 0 (.alloc [(.cl []),(.cl [])])])
 (.seq (.ops [cL 7 F.W16_A [],cL 8 F.W16_drop [(cI 3)],cL 9 F.W16_put [(cI 7),(.c (.str ⟨#[100]⟩))],
 o 10 (.bslice 2 3 [(.int .i64 0),(.bool false),(.str ⟨#[]⟩)] [(0,(.t 8)),(1,(.t 9))]),cL 11 F.R16_Append [(.t 7),(.t 10)],mT 6 11,o 12 (.ext 0 (.t 6)),
 o 13 (.ext 1 (.t 6)),mT 1 12,mT 2 13])
 (.seq (.ops [cL 15 F.W16_A [],mT 16 1,cL 17 F.R16_Do [(.t 15),(.t 16)],mT 14 17,o 18 (.ext 0 (.t 14)),o 19 (.ext 1 (.t 14)),o 20 (.ext 2 (.t 14)),
 o 3 (.alloc [(.cl []),(.cl [])]),sT 2 3 18,mT 4 19,mT 5 20])
 (.seq (.ops [lT 21 2 3,sT 2 0 21])
 .ret)))) }
def C.disk_Gains : LFunc := { np := 1,res := [.tmp 2,.tmp 3],keep := false,body :=
 (.seq (.ops [bX 1 2 0,mC 2 (.cl []),mC 3 (.int .i64 0)])
 (.seq (.ops [lT 10 2 1,o 11 (.icall (.f F.disk_opened) [(.t 10)]),mT 9 11,o 12 (.ext 0 (.t 9)),o 13 (.ext 1 (.t 9)),mT 4 12,mT 5 13])
 (.seq (.seq (.ops [mT 14 5,nT 15 14])
 (.cond (.t 15)
 (.seq (.ops [mC 2 (.cl []),mC 3 (.int .i64 2)])
 .ret)
 .skip))
 (.seq (.ops [mT 17 4,cL 18 F.disk_look [(.t 17)],mT 16 18,o 19 (.ext 0 (.t 16)),o 20 (.ext 1 (.t 16)),mT 6 19,mT 5 20])
 (.seq (.seq (.ops [mT 21 5,nT 22 21])
 (.cond (.t 22)
 (.seq (.ops [mC 2 (.cl []),mC 3 (.int .i64 4)])
 .ret)
 .skip))
 (.seq (.ops [mC 7 (.cl [])])
 (.seq (.seq (.ops [mC 23 (.int .i64 0)])
 (.block 0 (.loop (.seq (.ops [bN 24 .lss (.t 23) (cI 6)])
 (.seq (.cond (.t 24)
 .skip
 (.exit 0))
 (.seq (.block 1 (.seq (.ops [mT 25 23,mT 8 25])
 (.ops [mT 26 7,mT 27 6,mT 28 8,cL 29 F.disk_journal_gain [(.t 27),(.t 28)],o 30 (.bslice 1 1 [(.int .i64 0)] [(0,(.t 29))]),o 31 (.append 1 (.t 26) (.t 30)),
 mT 7 31])))
 (.ops [bN 32 .add (.t 23) (cI 1),mT 23 32])))))))
 (.seq (.ops [mT 33 7,mT 2 33,mC 3 (.int .i64 0)])
 .ret)))))))) }
def C.R16_SameSteps : LFunc := { np := 2,res := [.tmp 4],keep := false,body :=
 (.seq (.ops [mC 4 (.bool false)])
 (.seq (.seq (.ops [mT 6 0,lN 7 6,mT 8 1,lN 9 8,bN 10 .neq (.t 7) (.t 9)])
 (.cond (.t 10)
 (.seq (.ops [mC 4 (.bool false)])
 .ret)
 .skip))
 (.seq (.seq (.ops [mC 5 (.int .i64 0)])
 (.block 0 (.loop (.seq (.seq (.ops [mT 11 5,mT 12 0,lN 13 12,bN 14 .lss (.t 11) (.t 13)])
 (.cond (.t 14)
 .skip
 (.exit 0)))
 (.seq (.block 1 (.seq (.draw [mT 17 0,mT 18 5,iA 19 3 17 18,lT 20 3 19,mT 21 1,mT 22 5,iA 23 3 21 22,lT 24 3 23,
 o 25 (.bin .neq (.agg [.num,.num,.str]) (.t 20) (.t 24))]
 [])
 (.cond (.t 25)
 (.seq (.ops [mC 4 (.bool false)])
 .ret)
 .skip)))
 (.ops [mT 15 5,bN 16 .add (.t 15) (cI 1),mT 5 16]))))))
 (.seq (.ops [mC 4 (.bool true)])
 .ret)))) }
def C.W16_written : LFunc := { np := 2,res := [.cell 4 true 3],keep := false,body :=
 (.seq (.ops [bX 3 6 1,o 4 (.alloc [(.int .i64 0),(.int .i64 0),(.str ⟨#[]⟩)])])
 (.seq (.ops [lT 8 6 3,cL 9 F.R16_Bytes [(.t 8)],mT 7 9,o 10 (.ext 0 (.t 7)),o 11 (.ext 1 (.t 7)),mT 5 10,mT 6 11])
 (.seq (.ops [mT 12 0,mT 13 5,o 14 (.build [(.int .i64 0),(.int .i64 0),(.str ⟨#[]⟩)] [(0,1,(cI 1)),(1,1,(.t 12)),(2,1,(.t 13))]),sT 3 4 14])
 .ret))) }
def C.W16_sync : LFunc := { np := 0,res := [.cell 0 true 3],keep := false,body :=
 (.seq (.ops [o 0 (.alloc [(.int .i64 0),(.int .i64 0),(.str ⟨#[]⟩)])])
 (.seq (.ops [o 1 (.build [(.int .i64 0),(.int .i64 0),(.str ⟨#[]⟩)] [(0,1,(cI 3))]),sT 3 0 1])
 .ret)) }
def C.R16_SameState : LFunc := { np := 2,res := [.tmp 4],keep := false,body :=
 (.seq (.ops [bX 2 4 0,bX 3 4 1,mC 4 (.bool false)])
 (.seq (.seq (.ops [fA 6 0 2,l1 7 6,lN 8 7,fA 9 0 3,l1 10 9,lN 11 10,bN 12 .neq (.t 8) (.t 11),mT 13 12,gF 14 13 false 1 2,g1 15 13 false 14,gF 16 13 false 1 3,
 g1 17 13 false 16,gB 18 13 false .neq (.t 15) (.t 17),pO 19 13 18,mT 20 19,gF 21 20 false 2 2,g1 22 20 false 21,gF 23 20 false 2 3,g1 24 20 false 23,
 gB 25 20 false .neq (.t 22) (.t 24),pO 26 20 25,mT 27 26,gF 28 27 false 3 2,g1 29 27 false 28,gF 30 27 false 3 3,g1 31 27 false 30,
 gL 32 27 false F.R16_SameList [(.t 29),(.t 31)],og 33 27 false (.un .not (.t 32)),pO 34 27 33])
 (.cond (.t 34)
 (.seq (.ops [mC 4 (.bool false)])
 .ret)
 .skip))
 (.seq (.seq (.ops [mC 5 (.int .i64 0)])
 (.block 0 (.loop (.seq (.seq (.ops [mT 35 5,fA 36 0 2,l1 37 36,lN 38 37,bN 39 .lss (.t 35) (.t 38)])
 (.cond (.t 39)
 .skip
 (.exit 0)))
 (.seq (.block 1 (.seq (.draw [fA 42 0 2,l1 43 42,mT 44 5,iA 45 2 43 44,lT 46 2 45,fA 47 0 3,l1 48 47,mT 49 5,iA 50 2 48 49,lT 51 2 50,
 o 52 (.bin .neq (.agg [.num,.str]) (.t 46) (.t 51))]
 [])
 (.cond (.t 52)
 (.seq (.ops [mC 4 (.bool false)])
 .ret)
 .skip)))
 (.ops [mT 40 5,bN 41 .add (.t 40) (cI 1),mT 5 41]))))))
 (.seq (.ops [mC 4 (.bool true)])
 .ret)))) }
def C.W16_erase : LFunc := { np := 1,res := [.cell 2 true 3],keep := false,body :=
 (.seq (.ops [o 2 (.alloc [(.int .i64 0),(.int .i64 0),(.str ⟨#[]⟩)])])
 (.seq (.ops [mT 3 0,o 4 (.build [(.int .i64 0),(.int .i64 0),(.str ⟨#[]⟩)] [(0,1,(cI 2)),(1,1,(.t 3))]),sT 3 2 4])
 .ret)) }
def C.disk_Do : LFunc := { np := 2,res := [.cell 4 true 2,.tmp 5,.tmp 6],keep := false,body :=
 (.seq (.ops [bX 2 2 0,o 4 (.alloc [(.cl []),(.cl [])]),mC 5 (.int .i64 0),mC 6 (.int .i64 0)])
 (.seq (.seq (.ops [mT 16 1,lN 17 16,bN 18 .gtr (.t 17) (cI 100)])
 (.cond (.t 18)
 (.seq (.ops [o 19 (.build [(.cl []),(.cl [])] []),sT 2 4 19,mC 5 (.int .i64 0),mC 6 (.int .i64 3)])
 .ret)
 .skip))
 (.seq (.ops [lT 21 2 2,o 22 (.icall (.f F.disk_opened) [(.t 21)]),mT 20 22,o 23 (.ext 0 (.t 20)),o 24 (.ext 1 (.t 20)),mT 7 23,mT 8 24])
 (.seq (.seq (.ops [mT 25 8,nT 26 25])
 (.cond (.t 26)
 (.seq (.ops [o 27 (.build [(.cl []),(.cl [])] []),sT 2 4 27,mC 5 (.int .i64 0),mC 6 (.int .i64 2)])
 .ret)
 .skip))
 (.seq (.ops [mC 9 (.cl [])])
 (.seq (.seq (.ops [mT 28 1,lN 29 28,mC 30 (.int .i64 0)])
 (.block 0 (.loop (.seq (.ops [bN 31 .lss (.t 30) (.t 29)])
 (.seq (.cond (.t 31)
 .skip
 (.exit 0))
 (.seq (.block 1 (.seq (.ops [iA 32 3 28 30,lT 33 3 32,o 11 (.alloc [(.int .i64 0),(.int .i64 0),(.str ⟨#[]⟩)]),sT 3 11 33])
 (.seq (.ops [lT 35 3 11,cL 36 F.disk_acted [(.t 35)],mT 34 36,o 37 (.ext 0 (.t 34)),o 38 (.ext 1 (.t 34)),mT 12 37,mT 13 38])
 (.seq (.seq (.ops [mT 39 13,nT 40 39])
 (.cond (.t 40)
 (.seq (.ops [o 41 (.build [(.cl []),(.cl [])] []),sT 2 4 41,mC 5 (.int .i64 0),mC 6 (.int .i64 2)])
 .ret)
 .skip))
 (.ops [mT 42 9,mT 43 12,o 44 (.bslice 1 1 [.nili] [(0,(.t 43))]),o 45 (.append 1 (.t 42) (.t 44)),mT 9 45])))))
 (.ops [bN 46 .add (.t 30) (cI 1),mT 30 46])))))))
 (.seq (.seq (.ops [mT 47 9,lN 48 47,mC 49 (.int .i64 0)])
 (.block 2 (.loop (.seq (.ops [bN 50 .lss (.t 49) (.t 48)])
 (.seq (.cond (.t 50)
 .skip
 (.exit 2))
 (.seq (.block 3 (.seq (.ops [mT 51 49,iA 52 1 47 49,l1 53 52,mT 14 51,mT 15 53])
 (.seq (.seq (.ops [mT 54 7,mT 55 15,o 56 (.icall (.f F.disk_device_allowed) [(.t 54),(.t 55)]),nT 57 56])
 (.cond (.t 57)
 (.seq (.ops [o 58 (.build [(.cl []),(.cl [])] []),mT 59 14,sT 2 4 58,mT 5 59,mC 6 (.int .i64 7)])
 .ret)
 .skip))
 (.ops [mT 60 7,mT 61 15,o 62 (.icall (.f F.disk_device_do) [(.t 60),(.t 61)])]))))
 (.ops [bN 63 .add (.t 49) (cI 1),mT 49 63])))))))
 (.seq (.ops [mT 64 7,cL 65 F.disk_device_closed [(.t 64)],sT 2 4 65,mC 5 (.int .i64 0),mC 6 (.int .i64 0)])
 .ret)))))))) }
def C.R16_SameList : LFunc := { np := 2,res := [.tmp 4],keep := false,body :=
 (.seq (.ops [mC 4 (.bool false)])
 (.seq (.seq (.ops [mT 6 0,lN 7 6,mT 8 1,lN 9 8,bN 10 .neq (.t 7) (.t 9)])
 (.cond (.t 10)
 (.seq (.ops [mC 4 (.bool false)])
 .ret)
 .skip))
 (.seq (.seq (.ops [mC 5 (.int .i64 0)])
 (.block 0 (.loop (.seq (.seq (.ops [mT 11 5,mT 12 0,lN 13 12,bN 14 .lss (.t 11) (.t 13)])
 (.cond (.t 14)
 .skip
 (.exit 0)))
 (.seq (.block 1 (.seq (.draw [mT 17 0,mT 18 5,iA 19 1 17 18,l1 20 19,mT 21 1,mT 22 5,iA 23 1 21 22,l1 24 23,bN 25 .neq (.t 20) (.t 24)]
 [])
 (.cond (.t 25)
 (.seq (.ops [mC 4 (.bool false)])
 .ret)
 .skip)))
 (.ops [mT 15 5,bN 16 .add (.t 15) (cI 1),mT 5 16]))))))
 (.seq (.ops [mC 4 (.bool true)])
 .ret)))) }
def C.disk_fine : LFunc := { np := 1,res := [.tmp 2],keep := false,body :=
 (.seq (.ops [bX 1 6 0,mC 2 (.bool false)])
 (.seq (.ops [fA 3 0 1,l1 4 3,cL 5 F.disk_in [(.t 4),(cI 1),(cI 1000000000)],mT 6 5,gF 7 6 true 2 1,g1 8 6 true 7,gL 9 6 true F.disk_in [(.t 8),(cI 1),(cI 22)],
 pA 10 6 9,mT 11 10,gF 12 11 true 1 1,g1 13 11 true 12,gF 14 11 true 2 1,g1 15 11 true 14,gB 16 11 true .sub (.t 15) (cI 1),
 gL 17 11 true F.disk_in [(.t 13),(cI 0),(.t 16)],pA 18 11 17,mT 19 18,gF 20 19 true 1 1,g1 21 19 true 20,gF 22 19 true 0 1,g1 23 19 true 22,
 gB 24 19 true .lss (.t 21) (.t 23),pA 25 19 24,mT 26 25,gF 27 26 true 3 1,g1 28 26 true 27,gF 29 26 true 4 1,g1 30 26 true 29,gF 31 26 true 5 1,g1 32 26 true 31,
 gL 33 26 true F.disk_said [(.t 28),(.t 30),(.t 32)],pA 34 26 33,mT 2 34])
 .ret)) }
def C.disk_encode : LFunc := { np := 1,res := [.cell 2 true 24],keep := false,body :=
 (.seq (.ops [bX 1 6 0,o 2 (.alloc (List.replicate 24 (.int .u8 0)))])
 (.seq (.ops [fA 4 0 1,l1 5 4,bN 6 .shr (.t 5) (.c (.int .u64 24)),o 7 (.wrap .u8 (.t 6)),fA 8 0 1,l1 9 8,bN 10 .shr (.t 9) (.c (.int .u64 16)),
 o 11 (.wrap .u8 (.t 10)),fA 12 0 1,l1 13 12,bN 14 .shr (.t 13) (.c (.int .u64 8)),o 15 (.wrap .u8 (.t 14)),fA 16 0 1,l1 17 16,o 18 (.wrap .u8 (.t 17)),fA 19 1 1,
 l1 20 19,o 21 (.wrap .u8 (.t 20)),fA 22 2 1,l1 23 22,o 24 (.wrap .u8 (.t 23)),fA 25 3 1,l1 26 25,o 27 (.wrap .u8 (.t 26)),
 o 28 (.build (List.replicate 24 (.int .u8 0)) [(0,1,(.c (.int .u8 90))),(1,1,(.t 7)),(2,1,(.t 11)),(3,1,(.t 15)),(4,1,(.t 18)),(5,1,(.t 21)),(6,1,(.t 24)),(7,1,(.t 27))]),
 o 3 (.alloc (List.replicate 24 (.int .u8 0))),sT 24 3 28])
 (.seq (.seq (.ops [fA 29 4 1,l1 30 29])
 (.cond (.t 30)
 (.ops [o 31 (.iaa 24 1 (.t 3) (cI 8)),on (.store 1 (.t 31) (.c (.int .u8 1)))])
 .skip))
 (.seq (.ops [fA 32 5 1,l1 33 32,o 34 (.len .str (.t 33)),o 35 (.wrap .u8 (.t 34)),o 36 (.iaa 24 1 (.t 3) (cI 9)),sT 1 36 35])
 (.seq (.draw [o 37 (.sla 24 1 false (.t 3) (some (cI 10)) none),fA 38 5 1,l1 39 38,o 40 (.copy 1 (.t 37) (.t 39))]
 [])
 (.seq (.ops [o 41 (.iaa 24 1 (.t 3) (cI 23)),on (.store 1 (.t 41) (.c (.int .u8 165)))])
 (.seq (.ops [lT 42 24 3,sT 24 2 42])
 .ret))))))) }
def C.R16_Right : LFunc := { np := 1,res := [.tmp 2],keep := false,body :=
 (.seq (.ops [bX 1 6 0,mC 2 (.bool false)])
 (.seq (.ops [fA 3 0 1,l1 4 3,cL 5 F.R16_in [(.t 4),(cI 1),(cI 1000000000)],mT 6 5,gF 7 6 true 2 1,g1 8 6 true 7,gL 9 6 true F.R16_in [(.t 8),(cI 1),(cI 22)],pA 10 6 9,
 mT 11 10,gF 12 11 true 1 1,g1 13 11 true 12,gF 14 11 true 2 1,g1 15 11 true 14,gB 16 11 true .sub (.t 15) (cI 1),gL 17 11 true F.R16_in [(.t 13),(cI 0),(.t 16)],
 pA 18 11 17,mT 19 18,gF 20 19 true 1 1,g1 21 19 true 20,gF 22 19 true 0 1,g1 23 19 true 22,gB 24 19 true .lss (.t 21) (.t 23),pA 25 19 24,mT 26 25,gF 27 26 true 3 1,
 g1 28 26 true 27,gL 29 26 true F.R16_in [(.t 28),(cI 0),(cI 15)],pA 30 26 29,mT 31 30,gF 32 31 true 4 1,g1 33 31 true 32,gF 34 31 true 5 1,g1 35 31 true 34,
 gL 36 31 true F.R16_text [(.t 33),(.t 35)],pA 37 31 36,mT 2 37])
 .ret)) }
def C.R16_write : LFunc := { np := 1,res := [.tmp 2],keep := false,body :=
 (.seq (.ops [bX 1 6 0,mC 2 (.str ⟨#[]⟩)])
 (.seq (.ops [mC 3 (.int .i64 0)])
 (.seq (.seq (.ops [fA 6 4 1,l1 7 6])
 (.cond (.t 7)
 (.ops [mC 3 (.int .i64 1)])
 .skip))
 (.seq (.ops [fA 8 0 1,l1 9 8,bN 10 .quo (.t 9) (cI 16777216),o 11 (.wrap .u8 (.t 10)),fA 12 0 1,l1 13 12,bN 14 .quo (.t 13) (cI 65536),bN 15 .rem (.t 14) (cI 256),
 o 16 (.wrap .u8 (.t 15)),fA 17 0 1,l1 18 17,bN 19 .quo (.t 18) (cI 256),bN 20 .rem (.t 19) (cI 256),o 21 (.wrap .u8 (.t 20)),fA 22 0 1,l1 23 22,
 bN 24 .rem (.t 23) (cI 256),o 25 (.wrap .u8 (.t 24)),fA 26 1 1,l1 27 26,o 28 (.wrap .u8 (.t 27)),fA 29 2 1,l1 30 29,o 31 (.wrap .u8 (.t 30)),fA 32 3 1,l1 33 32,
 o 34 (.wrap .u8 (.t 33)),mT 35 3,o 36 (.wrap .u8 (.t 35)),fA 37 5 1,l1 38 37,o 39 (.len .str (.t 38)),o 40 (.wrap .u8 (.t 39)),
 o 41 (.bslice 10 1 [(.int .u8 0)] [(0,(.c (.int .u8 90))),(1,(.t 11)),(2,(.t 16)),(3,(.t 21)),(4,(.t 25)),(5,(.t 28)),(6,(.t 31)),(7,(.t 34)),(8,(.t 36)),(9,(.t 40))]),
 mT 4 41])
 (.seq (.ops [mT 42 4,o 43 (.b2s (.t 42)),fA 44 5 1,l1 45 44,o 46 (.bin .add .str (.t 43) (.t 45)),mT 5 46])
 (.seq (.draw [mT 47 5,mT 48 5,o 49 (.len .str (.t 48)),bN 50 .sub (cI 23) (.t 49),cL 51 F.R16_zeros [(.t 50)],o 52 (.bin .add .str (.t 47) (.t 51)),
 o 53 (.bslice 1 1 [(.int .u8 0)] [(0,(.c (.int .u8 165)))]),o 54 (.b2s (.t 53)),o 55 (.bin .add .str (.t 52) (.t 54)),mT 2 55]
 [(2,6),(4,6),(4,7)])
 .ret)))))) }
def C.disk_slot : LFunc := { np := 1,res := [.cell 2 true 24],keep := false,body :=
 (.seq (.ops [o 2 (.alloc (List.replicate 24 (.int .u8 0)))])
 (.seq (.ops [o 3 (.alloc (List.replicate 24 (.int .u8 0)))])
 (.seq (.ops [o 4 (.sla 24 1 false (.t 3) none none),mT 5 0,o 6 (.copy 1 (.t 4) (.t 5))])
 (.seq (.ops [lT 7 24 3,sT 24 2 7])
 .ret)))) }
def C.disk_decode : LFunc := { np := 1,res := [.cell 2 true 6,.tmp 3],keep := false,body :=
 (.seq (.ops [bX 1 24 0,o 2 (.alloc [(.int .i64 0),(.int .i64 0),(.int .i64 0),(.int .i64 0),(.bool false),(.str ⟨#[]⟩)]),mC 3 (.bool false)])
 (.seq (.ops [o 5 (.iaa 24 1 (.t 1) (cI 1)),l1 6 5,o 7 (.wrap .i64 (.t 6)),bN 8 .shl (.t 7) (.c (.int .u64 24)),o 9 (.iaa 24 1 (.t 1) (cI 2)),l1 10 9,
 o 11 (.wrap .i64 (.t 10)),bN 12 .shl (.t 11) (.c (.int .u64 16)),bN 13 .or (.t 8) (.t 12),o 14 (.iaa 24 1 (.t 1) (cI 3)),l1 15 14,o 16 (.wrap .i64 (.t 15)),
 bN 17 .shl (.t 16) (.c (.int .u64 8)),bN 18 .or (.t 13) (.t 17),o 19 (.iaa 24 1 (.t 1) (cI 4)),l1 20 19,o 21 (.wrap .i64 (.t 20)),bN 22 .or (.t 18) (.t 21),
 o 23 (.iaa 24 1 (.t 1) (cI 5)),l1 24 23,o 25 (.wrap .i64 (.t 24)),o 26 (.iaa 24 1 (.t 1) (cI 6)),l1 27 26,o 28 (.wrap .i64 (.t 27)),o 29 (.iaa 24 1 (.t 1) (cI 7)),
 l1 30 29,o 31 (.wrap .i64 (.t 30)),o 32 (.iaa 24 1 (.t 1) (cI 8)),l1 33 32,bN 34 .eql (.t 33) (.c (.int .u8 1)),
 o 35 (.build [(.int .i64 0),(.int .i64 0),(.int .i64 0),(.int .i64 0),(.bool false),(.str ⟨#[]⟩)] [(0,1,(.t 22)),(1,1,(.t 25)),(2,1,(.t 28)),(3,1,(.t 31)),(4,1,(.t 34))]),
 o 4 (.alloc [(.int .i64 0),(.int .i64 0),(.int .i64 0),(.int .i64 0),(.bool false),(.str ⟨#[]⟩)]),sT 6 4 35])
 (.seq (.seq (.ops [o 36 (.iaa 24 1 (.t 1) (cI 9)),l1 37 36,bN 38 .gtr (.t 37) (.c (.int .u8 12))])
 (.cond (.t 38)
 (.seq (.ops [o 39 (.build [(.int .i64 0),(.int .i64 0),(.int .i64 0),(.int .i64 0),(.bool false),(.str ⟨#[]⟩)] []),sT 6 2 39,mC 3 (.bool false)])
 .ret)
 .skip))
 (.seq (.ops [o 40 (.iaa 24 1 (.t 1) (cI 9)),l1 41 40,o 42 (.wrap .i64 (.t 41)),bN 43 .add (cI 10) (.t 42),o 44 (.sla 24 1 false (.t 1) (some (cI 10)) (some (.t 43))),
 o 45 (.b2s (.t 44)),fA 46 5 4,sT 1 46 45])
 (.seq (.seq (.draw [lT 47 6 4,cL 48 F.disk_fine [(.t 47)],nT 49 48,mT 50 49,gT 51 50 false 6 4,gL 52 50 false F.disk_encode [(.t 51)],gT 53 50 false 24 1,
 og 54 50 false (.bin .neq (.agg [.num,.num,.num,.num,.num,.num,.num,.num,.num,.num,.num,.num,.num,.num,.num,.num,.num,.num,.num,.num,.num,.num,.num,.num]) (.t 52) (.t 53)),
 pO 55 50 54]
 [(5,6)])
 (.cond (.t 55)
 (.seq (.ops [o 56 (.build [(.int .i64 0),(.int .i64 0),(.int .i64 0),(.int .i64 0),(.bool false),(.str ⟨#[]⟩)] []),sT 6 2 56,mC 3 (.bool false)])
 .ret)
 .skip))
 (.seq (.ops [lT 57 6 4,sT 6 2 57,mC 3 (.bool true)])
 .ret)))))) }
def C.R16_read : LFunc := { np := 1,res := [.cell 2 true 6,.tmp 3],keep := false,body :=
 (.seq (.ops [o 2 (.alloc [(.int .i64 0),(.int .i64 0),(.int .i64 0),(.int .i64 0),(.bool false),(.str ⟨#[]⟩)]),mC 3 (.bool false)])
 (.seq (.ops [mT 8 0,o 9 (.ixs (.t 8) (cI 9)),o 10 (.wrap .i64 (.t 9)),mT 4 10])
 (.seq (.seq (.ops [mT 11 4,bN 12 .gtr (.t 11) (cI 12)])
 (.cond (.t 12)
 (.seq (.ops [o 13 (.build [(.int .i64 0),(.int .i64 0),(.int .i64 0),(.int .i64 0),(.bool false),(.str ⟨#[]⟩)] []),sT 6 2 13,mC 3 (.bool false)])
 .ret)
 .skip))
 (.seq (.ops [mC 5 (.int .i64 0)])
 (.seq (.seq (.ops [mC 6 (.int .i64 1)])
 (.block 0 (.loop (.seq (.seq (.ops [mT 14 6,bN 15 .leq (.t 14) (cI 4)])
 (.cond (.t 15)
 .skip
 (.exit 0)))
 (.seq (.block 1 (.ops [mT 18 5,bN 19 .mul (cI 256) (.t 18),mT 20 0,mT 21 6,o 22 (.ixs (.t 20) (.t 21)),o 23 (.wrap .i64 (.t 22)),bN 24 .add (.t 19) (.t 23),mT 5 24]))
 (.ops [mT 16 6,bN 17 .add (.t 16) (cI 1),mT 6 17]))))))
 (.seq (.draw [mT 25 5,mT 26 0,o 27 (.ixs (.t 26) (cI 5)),o 28 (.wrap .i64 (.t 27)),mT 29 0,o 30 (.ixs (.t 29) (cI 6)),o 31 (.wrap .i64 (.t 30)),mT 32 0,
 o 33 (.ixs (.t 32) (cI 7)),o 34 (.wrap .i64 (.t 33)),mT 35 0,o 36 (.ixs (.t 35) (cI 8)),bN 37 .eql (.t 36) (.c (.int .u8 1)),mT 38 0,mT 39 4,
 bN 40 .add (cI 10) (.t 39),o 41 (.slice true 1 (.t 38) (some (cI 10)) (some (.t 40)) none),
 o 42 (.build [(.int .i64 0),(.int .i64 0),(.int .i64 0),(.int .i64 0),(.bool false),(.str ⟨#[]⟩)] [(0,1,(.t 25)),(1,1,(.t 28)),(2,1,(.t 31)),(3,1,(.t 34)),(4,1,(.t 37)),(5,1,(.t 41))]),
 o 7 (.alloc [(.int .i64 0),(.int .i64 0),(.int .i64 0),(.int .i64 0),(.bool false),(.str ⟨#[]⟩)]),sT 6 7 42]
 [(16,18)])
 (.seq (.draw [lT 43 6 7,lT 44 6 7,cL 45 F.R16_Right [(.t 44)],mT 46 45,gT 47 46 true 6 7,gL 48 46 true F.R16_write [(.t 47)],gM 49 46 true 0,
 og 50 46 true (.bin .eql .str (.t 48) (.t 49)),pA 51 46 50,sT 6 2 43,mT 3 51]
 [(0,2),(0,5)])
 .ret))))))) }
def C.disk_Append_c1 : LFunc := { np := 1,res := [.tmp 2],keep := false,body :=
 (.seq (.ops [bX 1 3 0,mC 2 (.bool false)])
 (.seq (.ops [fA 3 0 1,l1 4 3,fA 5 1 1,l1 6 5,fA 7 2 1,l1 8 7,cL 9 F.disk_said [(.t 4),(.t 6),(.t 8)],nT 10 9,mT 2 10])
 .ret)) }
def C.disk_said : LFunc := { np := 3,res := [.tmp 6],keep := false,body :=
 (.seq (.ops [mC 6 (.bool false)])
 (.seq (.ops [mT 7 0,cL 8 F.disk_in [(.t 7),(cI 0),(cI 15)],mT 9 8,gM 10 9 true 2,og 11 9 true (.len .str (.t 10)),gB 12 9 true .leq (.t 11) (cI 12),pA 13 9 12,
 mT 14 13,gM 15 14 true 1,gM 16 14 true 15,gM 17 16 false 2,og 18 16 false (.bin .eql .str (.t 17) (.c (.str ⟨#[]⟩))),og 19 14 true (.pick (.t 16) (cB true) (.t 18)),
 pA 20 14 19,mT 6 20])
 .ret)) }
def C.disk_opened : LFunc := { np := 1,res := [.tmp 2,.tmp 3],keep := false,body :=
 (.seq (.ops [bX 1 2 0,mC 2 .nilp,mC 3 (.bool false)])
 (.seq (.seq (.ops [fA 11 0 1,l1 12 11,lN 13 12,bN 14 .neq (.t 13) (cI 48),mT 15 14,gF 16 15 false 1 1,g1 17 15 false 16,gN 18 15 false 17,
 gB 19 15 false .gtr (.t 18) (cI 100),pO 20 15 19])
 (.cond (.t 20)
 (.seq (.ops [mC 2 .nilp,mC 3 (.bool false)])
 .ret)
 .skip))
 (.seq (.ops [o 21 (.build (List.replicate 1152 (.int .u8 0) ++ [(.cl [])]) []),bX 22 1153 21,mT 4 22])
 (.seq (.seq (.ops [fA 23 0 1,l1 24 23,lN 25 24,mC 26 (.int .i64 0)])
 (.block 0 (.loop (.seq (.ops [bN 27 .lss (.t 26) (.t 25)])
 (.seq (.cond (.t 27)
 .skip
 (.exit 0))
 (.seq (.block 1 (.seq (.ops [mT 28 26,iA 29 1 24 26,l1 30 29,mT 5 28,mT 6 30])
 (.seq (.seq (.ops [mT 31 6,o 32 (.len .str (.t 31)),bN 33 .neq (.t 32) (cI 24)])
 (.cond (.t 33)
 (.seq (.ops [mC 2 .nilp,mC 3 (.bool false)])
 .ret)
 .skip))
 (.draw [mT 34 4,mT 35 5,mT 36 6,cL 37 F.disk_slot [(.t 36)],nK 38 34,fA 39 0 38,o 40 (.iaa 48 24 (.t 39) (.t 35)),sT 24 40 37]
 []))))
 (.ops [bN 41 .add (.t 26) (cI 1),mT 26 41])))))))
 (.seq (.seq (.ops [fA 42 1 1,l1 43 42,lN 44 43,mC 45 (.int .i64 0)])
 (.block 2 (.loop (.seq (.ops [bN 46 .lss (.t 45) (.t 44)])
 (.seq (.cond (.t 46)
 .skip
 (.exit 2))
 (.seq (.block 3 (.seq (.ops [iA 47 3 43 45,lT 48 3 47,o 8 (.alloc [(.int .i64 0),(.int .i64 0),(.str ⟨#[]⟩)]),sT 3 8 48])
 (.seq (.ops [lT 50 3 8,cL 51 F.disk_acted [(.t 50)],mT 49 51,o 52 (.ext 0 (.t 49)),o 53 (.ext 1 (.t 49)),mT 9 52,mT 10 53])
 (.seq (.seq (.ops [mT 54 10,nT 55 54,mT 56 55,gF 57 56 false 0 8,g1 58 56 false 57,gB 59 56 false .eql (.t 58) (cI 3),pO 60 56 59,mT 61 60,gM 62 61 false 4,
 gM 63 61 false 9,og 64 61 false (.icall (.f F.disk_device_allowed) [(.t 62),(.t 63)]),og 65 61 false (.un .not (.t 64)),pO 66 61 65])
 (.cond (.t 66)
 (.seq (.ops [mC 2 .nilp,mC 3 (.bool false)])
 .ret)
 .skip))
 (.ops [mT 67 4,mT 68 9,o 69 (.icall (.f F.disk_device_do) [(.t 67),(.t 68)])])))))
 (.ops [bN 70 .add (.t 45) (cI 1),mT 45 70])))))))
 (.seq (.ops [mT 71 4,mT 2 71,mC 3 (.bool true)])
 .ret)))))) }
def C.slices_ContainsFunc_s_api_DiskChange_api_DiskChange : LFunc := { np := 2,res := [.tmp 4],keep := false,body :=
 (.seq (.ops [mC 4 (.bool false)])
 (.seq (.ops [mT 5 0,mT 6 1,cL 7 F.slices_IndexFunc_s_api_DiskChange_api_DiskChange [(.t 5),(.t 6)],bN 8 .geq (.t 7) (cI 0),mT 4 8])
 .ret)) }
def C.disk_still : LFunc := { np := 1,res := [.tmp 2,.tmp 3],keep := false,body :=
 (.seq (.ops [bX 1 2 0,mC 2 .nilp,mC 3 (.int .i64 0)])
 (.seq (.ops [lT 8 2 1,o 9 (.icall (.f F.disk_opened) [(.t 8)]),mT 7 9,o 10 (.ext 0 (.t 7)),o 11 (.ext 1 (.t 7)),mT 4 10,mT 5 11])
 (.seq (.seq (.ops [mT 12 5,nT 13 12])
 (.cond (.t 13)
 (.seq (.ops [mC 2 .nilp,mC 3 (.int .i64 2)])
 .ret)
 .skip))
 (.seq (.seq (.ops [mT 14 4,nK 15 14,fA 16 1152 15,l1 17 16,lN 18 17,bN 19 .gtr (.t 18) (cI 0)])
 (.cond (.t 19)
 (.seq (.ops [mC 2 .nilp,mC 3 (.int .i64 6)])
 .ret)
 .skip))
 (.seq (.ops [mT 21 4,cL 22 F.disk_look [(.t 21)],mT 20 22,o 23 (.ext 0 (.t 20)),o 24 (.ext 1 (.t 20)),mT 6 23,mT 5 24])
 (.seq (.seq (.ops [mT 25 5,nT 26 25])
 (.cond (.t 26)
 (.seq (.ops [mC 2 .nilp,mC 3 (.int .i64 4)])
 .ret)
 .skip))
 (.seq (.ops [mT 27 6,mT 2 27,mC 3 (.int .i64 0)])
 .ret))))))) }
def C.disk_journal_deciding : LFunc := { np := 2,res := [.cell 4 true 7,.tmp 5],keep := false,body :=
 (.seq (.ops [bX 2 1 0,bX 3 1 1,o 4 (.alloc [(.int .i64 0),(.int .i64 0),(.int .i64 0),(.int .i64 0),(.bool false),(.str ⟨#[]⟩),(.int .i64 0)]),mC 5 (.bool false)])
 (.seq (.ops [o 6 (.alloc [(.int .i64 0),(.int .i64 0),(.int .i64 0),(.int .i64 0),(.bool false),(.str ⟨#[]⟩),(.int .i64 0)])])
 (.seq (.seq (.ops [l1 8 2,o 9 (.icall (.f F.disk_journal_records) [(.t 8)])])
 (.block 0 (.rangeF (.t 9) [10]
 (.ops [o 7 (.alloc [(.int .i64 0),(.int .i64 0),(.int .i64 0),(.int .i64 0),(.bool false),(.str ⟨#[]⟩),(.int .i64 0)]),sT 7 7 10])
 (.block 1 (.seq (.ops [fA 11 0 7,fA 12 3 11,l1 13 12,l1 14 3,bN 15 .eql (.t 13) (.t 14),mT 16 15,g1 17 16 true 2,gT 18 16 true 7 7,
 gL 19 16 true F.disk_journal_counts [(.t 17),(.t 18)],pA 20 16 19,mT 21 20,gF 22 21 true 0 7,gF 23 21 true 0 22,g1 24 21 true 23,gF 25 21 true 0 6,gF 26 21 true 0 25,
 g1 27 21 true 26,gB 28 21 true .gtr (.t 24) (.t 27),pA 29 21 28])
 (.cond (.t 29)
 (.ops [lT 30 7 7,sT 7 6 30])
 .skip))))))
 (.seq (.draw [lT 31 7 6,fA 32 0 6,fA 33 0 32,l1 34 33,bN 35 .gtr (.t 34) (cI 0),sT 7 4 31,mT 5 35]
 [(3,5)])
 .ret)))) }
def C.disk_batch_add : LFunc := { np := 2,res := [],keep := false,body :=
 (.seq (.ops [bX 3 6 1])
 (.draw [mT 4 0,mT 5 0,nK 6 5,fA 7 0 6,l1 8 7,lT 9 6 3,
 o 10 (.bslice 1 6 [(.int .i64 0),(.int .i64 0),(.int .i64 0),(.int .i64 0),(.bool false),(.str ⟨#[]⟩)] [(0,(.t 9))]),o 11 (.append 6 (.t 8) (.t 10)),nK 12 4,
 fA 13 0 12,sT 1 13 11]
 [(4,6)])) }
def C.disk_journal_loose : LFunc := { np := 1,res := [.tmp 2],keep := false,body :=
 (.seq (.ops [bX 1 1 0,mC 2 (.cl [])])
 (.seq (.ops [o 3 (.alloc [(.cl [])])])
 (.seq (.seq (.ops [l1 5 1,o 6 (.icall (.f F.disk_journal_records) [(.t 5)])])
 (.block 0 (.rangeF (.t 6) [7]
 (.ops [o 4 (.alloc [(.int .i64 0),(.int .i64 0),(.int .i64 0),(.int .i64 0),(.bool false),(.str ⟨#[]⟩),(.int .i64 0)]),sT 7 4 7])
 (.block 1 (.seq (.ops [l1 8 1,lT 9 7 4,cL 10 F.disk_journal_counts [(.t 8),(.t 9)],nT 11 10])
 (.cond (.t 11)
 (.ops [l1 12 3,fA 13 0 4,fA 14 3 13,l1 15 14,o 16 (.bslice 1 1 [(.int .i64 0)] [(0,(.t 15))]),o 17 (.append 1 (.t 12) (.t 16)),sT 1 3 17])
 .skip))))))
 (.seq (.ops [l1 18 3,o 19 (.icall (.f F.slices_Sort_s_int_int) [(.t 18)])])
 (.seq (.ops [l1 20 3,o 21 (.icall (.f F.slices_Compact_s_int_int) [(.t 20)]),mT 2 21])
 .ret))))) }
def C.disk_Append_c2 : LFunc := { np := 2,res := [.tmp 3],keep := false,body :=
 (.seq (.ops [bX 2 3 0,mC 3 (.bool false)])
 (.seq (.ops [fA 4 0 2,l1 5 4,l1 6 1,bN 7 .eql (.t 5) (.t 6),mT 3 7])
 .ret)) }
def C.disk_journal_again : LFunc := { np := 2,res := [.cell 4 true 6],keep := false,body :=
 (.seq (.ops [o 4 (.alloc [(.int .i64 0),(.int .i64 0),(.int .i64 0),(.int .i64 0),(.bool false),(.str ⟨#[]⟩)])])
 (.seq (.ops [mT 8 0,mT 9 1,cL 10 F.disk_journal_deciding [(.t 8),(.t 9)],mT 7 10,o 11 (.ext 0 (.t 7)),o 12 (.ext 1 (.t 7)),
 o 5 (.alloc [(.int .i64 0),(.int .i64 0),(.int .i64 0),(.int .i64 0),(.bool false),(.str ⟨#[]⟩),(.int .i64 0)]),sT 7 5 11,mT 6 12])
 (.seq (.ops [mT 13 1,fA 14 0 5,fA 15 4 14,l1 16 15,fA 17 0 5,fA 18 5 17,l1 19 18,
 o 20 (.build [(.int .i64 0),(.int .i64 0),(.int .i64 0),(.int .i64 0),(.bool false),(.str ⟨#[]⟩)] [(3,1,(.t 13)),(4,1,(.t 16)),(5,1,(.t 19))]),sT 6 4 20])
 .ret))) }
def C.disk_journal_empty : LFunc := { np := 2,res := [.tmp 4],keep := false,body :=
 (.seq (.ops [mC 4 (.cl [])])
 (.seq (.ops [mC 5 (.cl [])])
 (.seq (.seq (.ops [mT 8 0,nK 9 8,fA 10 0 9,lT 11 1152 10,mC 12 (.int .i64 0)])
 (.block 0 (.loop (.seq (.ops [bN 13 .lss (.t 12) (cI 48)])
 (.seq (.cond (.t 13)
 .skip
 (.exit 0))
 (.seq (.block 1 (.seq (.ops [mT 14 12,o 15 (.ixa true 48 24 (.t 11) (.t 12)),o 7 (.alloc (List.replicate 24 (.int .u8 0))),mT 6 14,sT 24 7 15])
 (.seq (.ops [lT 16 24 7,o 17 (.build (List.replicate 24 (.int .u8 0)) []),
 o 18 (.bin .eql (.agg [.num,.num,.num,.num,.num,.num,.num,.num,.num,.num,.num,.num,.num,.num,.num,.num,.num,.num,.num,.num,.num,.num,.num,.num]) (.t 16) (.t 17)),
 mT 19 18,gM 20 19 true 6,gB 21 19 true .quo (.t 20) (cI 8),gM 22 19 true 1,gB 23 19 true .neq (.t 21) (.t 22),pA 24 19 23])
 (.cond (.t 24)
 (.ops [mT 25 5,mT 26 6,o 27 (.bslice 1 1 [(.int .i64 0)] [(0,(.t 26))]),o 28 (.append 1 (.t 25) (.t 27)),mT 5 28])
 .skip))))
 (.ops [bN 29 .add (.t 12) (cI 1),mT 12 29])))))))
 (.seq (.ops [mT 30 5,mT 4 30])
 .ret)))) }
def C.disk_journal_steps : LFunc := { np := 3,res := [.tmp 6,.tmp 7],keep := false,body :=
 (.seq (.ops [bX 4 1 1,mC 6 (.cl []),mC 7 (.int .i64 0)])
 (.seq (.seq (.draw [mT 11 0,nK 12 11,fA 13 1154 12,l1 14 13,fA 15 0 4,l1 16 15,lN 17 16,bN 18 .add (.t 14) (.t 17),bN 19 .sub (.t 18) (cI 1),
 bN 20 .gtr (.t 19) (cI 1000000000)]
 [])
 (.cond (.t 20)
 (.seq (.ops [mC 6 (.cl []),mC 7 (.int .i64 3)])
 .ret)
 .skip))
 (.seq (.ops [mC 8 (.cl [])])
 (.seq (.seq (.ops [fA 21 0 4,l1 22 21,lN 23 22,mC 24 (.int .i64 0)])
 (.block 0 (.loop (.seq (.ops [bN 25 .lss (.t 24) (.t 23)])
 (.seq (.cond (.t 25)
 .skip
 (.exit 0))
 (.seq (.block 1 (.seq (.ops [mT 26 24,iA 27 6 22 24,lT 28 6 27,o 10 (.alloc [(.int .i64 0),(.int .i64 0),(.int .i64 0),(.int .i64 0),(.bool false),(.str ⟨#[]⟩)]),
 mT 9 26,sT 6 10 28])
 (.seq (.draw [mT 29 0,nK 30 29,fA 31 1154 30,l1 32 31,mT 33 9,bN 34 .add (.t 32) (.t 33),mT 35 9,fA 36 0 4,l1 37 36,lN 38 37,fA 39 0 10,sT 1 39 34,fA 40 1 10,
 sT 1 40 35,fA 41 2 10,sT 1 41 38]
 [(8,11),(9,11),(8,13),(9,13)])
 (.draw [mT 42 8,mT 43 2,mT 44 9,iA 45 1 43 44,l1 46 45,lT 47 6 10,cL 48 F.disk_encode [(.t 47)],
 o 49 (.build ([(.int .i64 0)] ++ List.replicate 24 (.int .u8 0)) [(0,1,(.t 46)),(1,24,(.t 48))]),cL 50 F.disk_write_step [(.t 49)],
 o 51 (.bslice 1 3 [(.int .i64 0),(.int .i64 0),(.str ⟨#[]⟩)] [(0,(.t 50))]),o 52 (.append 3 (.t 42) (.t 51)),mT 8 52]
 [(3,6),(4,6)]))))
 (.ops [bN 53 .add (.t 24) (cI 1),mT 24 53])))))))
 (.seq (.ops [mT 54 8,o 55 (.build [] []),cL 56 F.disk_sync_step [(.t 55)],o 57 (.bslice 1 3 [(.int .i64 0),(.int .i64 0),(.str ⟨#[]⟩)] [(0,(.t 56))]),
 o 58 (.append 3 (.t 54) (.t 57)),mT 6 58,mC 7 (.int .i64 0)])
 .ret))))) }
def C.R16_Append : LFunc := { np := 2,res := [.tmp 4,.tmp 5],keep := false,body :=
 (.seq (.ops [bX 2 2 0,mC 4 (.cl []),mC 5 (.int .i64 0)])
 (.seq (.seq (.ops [mT 14 1,lN 15 14,bN 16 .gtr (.t 15) (cI 6)])
 (.cond (.t 16)
 (.seq (.ops [mC 4 (.cl []),mC 5 (.int .i64 3)])
 .ret)
 .skip))
 (.seq (.seq (.ops [mC 6 (.int .i64 0)])
 (.block 0 (.loop (.seq (.seq (.ops [mT 17 6,mT 18 1,lN 19 18,bN 20 .lss (.t 17) (.t 19)])
 (.cond (.t 20)
 .skip
 (.exit 0)))
 (.seq (.block 1 (.seq (.ops [mT 23 1,mT 24 6,iA 25 3 23 24,lT 26 3 25,cL 27 F.R16_change [(.t 26)],nT 28 27])
 (.cond (.t 28)
 (.seq (.ops [mC 4 (.cl []),mC 5 (.int .i64 2)])
 .ret)
 .skip)))
 (.ops [mT 21 6,bN 22 .add (.t 21) (cI 1),mT 6 22]))))))
 (.seq (.ops [lT 30 2 2,cL 31 F.R16_wanted [(.t 30)],mT 29 31,o 32 (.ext 0 (.t 29)),o 33 (.ext 1 (.t 29)),
 o 7 (.alloc [(.cl []),(.cl []),(.cl []),(.int .i64 0),(.int .i64 0)]),sT 5 7 32,mT 8 33])
 (.seq (.seq (.ops [mT 34 8,bN 35 .neq (.t 34) (cI 0),mT 36 35,gM 37 36 false 1,gN 38 36 false 37,gB 39 36 false .eql (.t 38) (cI 0),pO 40 36 39])
 (.cond (.t 40)
 (.seq (.ops [mT 41 8,mC 4 (.cl []),mT 5 41])
 .ret)
 .skip))
 (.seq (.ops [mC 9 (.cl [])])
 (.seq (.seq (.ops [mC 10 (.int .i64 0)])
 (.block 2 (.loop (.seq (.seq (.ops [mT 42 10,bN 43 .lss (.t 42) (cI 16)])
 (.cond (.t 43)
 .skip
 (.exit 2)))
 (.seq (.block 3 (.seq (.ops [lT 46 5 7,mT 47 10,cL 48 F.R16_log_loose [(.t 46),(.t 47)],mT 49 48,gM 50 49 true 1,gM 51 49 true 10,
 gL 52 49 true F.R16_named [(.t 50),(.t 51)],og 53 49 true (.un .not (.t 52)),pA 54 49 53])
 (.cond (.t 54)
 (.ops [mT 55 9,lT 56 5 7,mT 57 10,cL 58 F.R16_log_again [(.t 56),(.t 57)],
 o 59 (.bslice 1 6 [(.int .i64 0),(.int .i64 0),(.int .i64 0),(.int .i64 0),(.bool false),(.str ⟨#[]⟩)] [(0,(.t 58))]),o 60 (.append 6 (.t 55) (.t 59)),mT 9 60])
 .skip)))
 (.ops [mT 44 10,bN 45 .add (.t 44) (cI 1),mT 10 45]))))))
 (.seq (.ops [o 11 (.alloc (List.replicate 16 (.bool false)))])
 (.seq (.seq (.ops [mC 12 (.int .i64 0)])
 (.block 4 (.loop (.seq (.seq (.ops [mT 61 12,bN 62 .lss (.t 61) (cI 16)])
 (.cond (.t 62)
 .skip
 (.exit 4)))
 (.seq (.block 5 (.ops [mT 65 12,lT 66 5 7,mT 67 12,cL 68 F.R16_log_again [(.t 66),(.t 67)],o 69 (.fld false 4 1 (.t 68)),o 70 (.iaa 16 1 (.t 11) (.t 65)),sT 1 70 69]))
 (.ops [mT 63 12,bN 64 .add (.t 63) (cI 1),mT 12 64]))))))
 (.seq (.seq (.ops [mC 13 (.int .i64 0)])
 (.block 6 (.loop (.seq (.seq (.ops [mT 71 13,mT 72 1,lN 73 72,bN 74 .lss (.t 71) (.t 73)])
 (.cond (.t 74)
 .skip
 (.exit 6)))
 (.seq (.block 7 (.seq (.seq (.ops [mT 77 1,mT 78 13,iA 79 3 77 78,fA 80 1 79,l1 81 80,nT 82 81,mT 83 82,gM 84 83 true 1,gM 85 83 true 13,
 og 86 83 true (.ia 3 (.t 84) (.t 85)),gF 87 83 true 0 86,g1 88 83 true 87,og 89 83 true (.iaa 16 1 (.t 11) (.t 88)),g1 90 83 true 89,og 91 83 true (.un .not (.t 90)),
 pA 92 83 91])
 (.cond (.t 92)
 (.seq (.ops [mC 4 (.cl []),mC 5 (.int .i64 5)])
 .ret)
 .skip))
 (.seq (.draw [mT 93 1,mT 94 13,iA 95 3 93 94,fA 96 0 95,l1 97 96,mT 98 1,mT 99 13,iA 100 3 98 99,fA 101 1 100,l1 102 101,o 103 (.iaa 16 1 (.t 11) (.t 97)),
 sT 1 103 102]
 [])
 (.draw [mT 104 9,mT 105 1,mT 106 13,iA 107 3 105 106,fA 108 0 107,l1 109 108,mT 110 1,mT 111 13,iA 112 3 110 111,fA 113 1 112,l1 114 113,mT 115 1,mT 116 13,
 iA 117 3 115 116,fA 118 2 117,l1 119 118,
 o 120 (.build [(.int .i64 0),(.int .i64 0),(.int .i64 0),(.int .i64 0),(.bool false),(.str ⟨#[]⟩)] [(3,1,(.t 109)),(4,1,(.t 114)),(5,1,(.t 119))]),
 o 121 (.bslice 1 6 [(.int .i64 0),(.int .i64 0),(.int .i64 0),(.int .i64 0),(.bool false),(.str ⟨#[]⟩)] [(0,(.t 120))]),o 122 (.append 6 (.t 104) (.t 121)),mT 9 122]
 []))))
 (.ops [mT 75 13,bN 76 .add (.t 75) (cI 1),mT 13 76]))))))
 (.seq (.seq (.ops [fA 123 4 7,l1 124 123,mT 125 9,lN 126 125,bN 127 .add (.t 124) (.t 126),bN 128 .sub (.t 127) (cI 1),bN 129 .gtr (.t 128) (cI 1000000000)])
 (.cond (.t 129)
 (.seq (.ops [mC 4 (.cl []),mC 5 (.int .i64 3)])
 .ret)
 .skip))
 (.seq (.seq (.ops [lT 130 5 7,cL 131 F.R16_log_empties [(.t 130),(cI (-1))],lN 132 131,mT 133 9,lN 134 133,bN 135 .sub (.t 132) (.t 134),bN 136 .lss (.t 135) (cI 8)])
 (.cond (.t 136)
 (.seq (.ops [mC 4 (.cl []),mC 5 (.int .i64 8)])
 .ret)
 .skip))
 (.seq (.draw [lT 137 5 7,mT 138 9,lT 139 5 7,cL 140 F.R16_log_empties [(.t 139),(cI (-1))],o 141 (.icall (.f F.R16_log_written) [(.t 137),(.t 138),(.t 140)]),
 o 142 (.ext 0 (.t 141)),o 143 (.ext 1 (.t 141)),mT 4 142,mT 5 143]
 [(0,3)])
 .ret))))))))))))) }
def C.R16_Make : LFunc := { np := 0,res := [.cell 0 true 2],keep := false,body :=
 (.seq (.ops [o 0 (.alloc [(.cl []),(.cl [])])])
 (.seq (.ops [o 1 (.alloc [(.cl []),(.cl [])])])
 (.seq (.seq (.ops [mC 2 (.int .i64 0)])
 (.block 0 (.loop (.seq (.seq (.ops [mT 3 2,bN 4 .lss (.t 3) (cI 48)])
 (.cond (.t 4)
 .skip
 (.exit 0)))
 (.seq (.block 1 (.ops [fA 7 0 1,l1 8 7,o 9 (.bslice 1 1 [(.str ⟨#[]⟩)] [(0,(.c (.str ⟨#[0,0,0,0,0,0,0,0,0,0,0,0,0,0,0,0,0,0,0,0,0,0,0,0]⟩)))]),
 o 10 (.append 1 (.t 8) (.t 9)),fA 11 0 1,sT 1 11 10]))
 (.ops [mT 5 2,bN 6 .add (.t 5) (cI 1),mT 2 6]))))))
 (.seq (.ops [lT 12 2 1,sT 2 0 12])
 .ret)))) }
def C.R16_Do : LFunc := { np := 2,res := [.cell 4 true 2,.tmp 5,.tmp 6],keep := false,body :=
 (.seq (.ops [bX 2 2 0,o 4 (.alloc [(.cl []),(.cl [])]),mC 5 (.int .i64 0),mC 6 (.int .i64 0)])
 (.seq (.seq (.ops [mT 9 1,lN 10 9,bN 11 .gtr (.t 10) (cI 100)])
 (.cond (.t 11)
 (.seq (.ops [o 12 (.build [(.cl []),(.cl [])] []),sT 2 4 12,mC 5 (.int .i64 0),mC 6 (.int .i64 3)])
 .ret)
 .skip))
 (.seq (.seq (.ops [lT 13 2 2,cL 14 F.R16_Formed [(.t 13)],nT 15 14])
 (.cond (.t 15)
 (.seq (.ops [o 16 (.build [(.cl []),(.cl [])] []),sT 2 4 16,mC 5 (.int .i64 0),mC 6 (.int .i64 2)])
 .ret)
 .skip))
 (.seq (.seq (.ops [mC 7 (.int .i64 0)])
 (.block 0 (.loop (.seq (.seq (.ops [mT 17 7,mT 18 1,lN 19 18,bN 20 .lss (.t 17) (.t 19)])
 (.cond (.t 20)
 .skip
 (.exit 0)))
 (.seq (.block 1 (.seq (.ops [mT 23 1,mT 24 7,iA 25 3 23 24,lT 26 3 25,cL 27 F.R16_stepped [(.t 26)],nT 28 27])
 (.cond (.t 28)
 (.seq (.ops [o 29 (.build [(.cl []),(.cl [])] []),sT 2 4 29,mC 5 (.int .i64 0),mC 6 (.int .i64 2)])
 .ret)
 .skip)))
 (.ops [mT 21 7,bN 22 .add (.t 21) (cI 1),mT 7 22]))))))
 (.seq (.seq (.ops [mC 8 (.int .i64 0)])
 (.block 2 (.loop (.seq (.seq (.ops [mT 30 8,mT 31 1,lN 32 31,bN 33 .lss (.t 30) (.t 32)])
 (.cond (.t 33)
 .skip
 (.exit 2)))
 (.seq (.block 3 (.seq (.seq (.draw [lT 36 2 2,mT 37 1,mT 38 8,iA 39 3 37 38,lT 40 3 39,cL 41 F.R16_allowed [(.t 36),(.t 40)],nT 42 41]
 [])
 (.cond (.t 42)
 (.seq (.ops [o 43 (.build [(.cl []),(.cl [])] []),mT 44 8,sT 2 4 43,mT 5 44,mC 6 (.int .i64 7)])
 .ret)
 .skip))
 (.seq (.ops [mT 45 1,mT 46 8,iA 47 3 45 46,fA 48 0 47,l1 49 48,bN 50 .eql (.t 49) (cI 3)])
 (.cond (.t 50)
 (.ops [lT 51 2 2,cL 52 F.R16_settled [(.t 51)],o 53 (.build [(.cl []),(.cl [])] [(0,1,(.t 52))]),sT 2 2 53])
 (.draw [fA 54 0 2,l1 55 54,fA 56 1 2,l1 57 56,o 58 (.append 3 (.c (.cl [])) (.t 57)),mT 59 1,mT 60 8,iA 61 3 59 60,lT 62 3 61,
 o 63 (.bslice 1 3 [(.int .i64 0),(.int .i64 0),(.str ⟨#[]⟩)] [(0,(.t 62))]),o 64 (.append 3 (.t 58) (.t 63)),
 o 65 (.build [(.cl []),(.cl [])] [(0,1,(.t 55)),(1,1,(.t 64))]),sT 2 2 65]
 [(1,4),(4,7),(4,8),(1,9),(3,9),(4,9),(1,10)])))))
 (.ops [mT 34 8,bN 35 .add (.t 34) (cI 1),mT 8 35]))))))
 (.seq (.ops [lT 66 2 2,sT 2 4 66,mC 5 (.int .i64 0),mC 6 (.int .i64 0)])
 .ret)))))) }
def C.disk_look : LFunc := { np := 1,res := [.cell 2 false 1,.cell 3 false 1],keep := false,body :=
 (.seq (.ops [o 2 (.alloc [.nilp]),o 3 (.alloc [(.bool false)])])
 (.seq (.draw [mT 10 0,nK 11 10,fA 12 0 11,lT 13 1152 12,mT 14 0,nK 15 14,fA 16 1152 15,l1 17 16,cL 18 F.slices_Clone_s_disk_act_disk_act [(.t 17)],
 o 19 (.build (List.replicate 1152 (.int .u8 0) ++ [(.cl [])]) [(0,1152,(.t 13)),(1152,1,(.t 18))]),bX 20 1153 19,mT 4 20]
 [(3,8)])
 (.seq (.ops [mT 21 4,o 22 (.icall (.f F.disk_device_settle) [(.t 21)])])
 (.seq (.ops [mT 23 4,nK 24 23,fA 25 0 24,lT 26 1152 25,o 27 (.mkmap),
 o 28 (.build (List.replicate 1152 (.int .u8 0) ++ [.nilm,(.int .i64 0),(.int .i64 0)]) [(0,1152,(.t 26)),(1152,1,(.t 27)),(1154,1,(cI 1))]),bX 29 1155 28,
 o 5 (.alloc [.nilp]),sT 1 5 29])
 (.seq (.seq (.ops [l1 30 5,o 31 (.icall (.f F.disk_journal_records) [(.t 30)])])
 (.block 0 (.rangeF (.t 31) [32]
 (.ops [o 6 (.alloc [(.int .i64 0),(.int .i64 0),(.int .i64 0),(.int .i64 0),(.bool false),(.str ⟨#[]⟩),(.int .i64 0)]),sT 7 6 32])
 (.block 1 (.seq (.seq (.draw [l1 34 5,nK 35 34,fA 36 1152 35,l1 37 36,fA 38 0 6,fA 39 0 38,l1 40 39,
 o 41 (.mget .num (.agg [(.int .i64 0),(.int .i64 0),(.int .i64 0),(.int .i64 0),(.bool false),(.str ⟨#[]⟩),(.int .i64 0)]) true (.t 37) (.t 40)),mT 33 41,
 o 42 (.ext 0 (.t 33)),o 43 (.ext 1 (.t 33)),o 7 (.alloc [(.int .i64 0),(.int .i64 0),(.int .i64 0),(.int .i64 0),(.bool false),(.str ⟨#[]⟩),(.int .i64 0)]),sT 7 7 42,
 mT 8 43]
 [(0,11),(3,11),(6,11),(7,11)])
 (.seq (.ops [mT 44 8])
 (.cond (.t 44)
 (.seq (.ops [on (.store 1 (.t 2) (.c .nilp)),on (.store 1 (.t 3) (cB false))])
 .ret)
 .skip)))
 (.seq (.draw [l1 45 5,nK 46 45,fA 47 1152 46,l1 48 47,fA 49 0 6,fA 50 0 49,l1 51 50,lT 52 7 6,on (.mput .num (.t 48) (.t 51) (.t 52))]
 [])
 (.draw [l1 53 5,l1 54 5,nK 55 54,fA 56 1154 55,l1 57 56,fA 58 0 6,fA 59 0 58,l1 60 59,bN 61 .add (.t 60) (cI 1),o 62 (.minmax true [(.t 57),(.t 61)]),nK 63 53,
 fA 64 1154 63,sT 1 64 62]
 [])))))))
 (.seq (.seq (.ops [l1 65 5,o 66 (.icall (.f F.disk_journal_records) [(.t 65)])])
 (.block 2 (.rangeF (.t 66) [67]
 (.ops [o 9 (.alloc [(.int .i64 0),(.int .i64 0),(.int .i64 0),(.int .i64 0),(.bool false),(.str ⟨#[]⟩),(.int .i64 0)]),sT 7 9 67])
 (.block 3 (.seq (.ops [fA 68 0 9,fA 69 1 68,l1 70 69,fA 71 0 9,fA 72 2 71,l1 73 72,bN 74 .sub (.t 73) (cI 1),bN 75 .eql (.t 70) (.t 74),mT 76 75,g1 77 76 true 5,
 gT 78 76 true 7 9,og 79 76 true (.icall (.f F.disk_journal_complete) [(.t 77),(.t 78)]),pA 80 76 79])
 (.cond (.t 80)
 (.draw [l1 81 5,l1 82 5,nK 83 82,fA 84 1153 83,l1 85 84,fA 86 0 9,fA 87 0 86,l1 88 87,o 89 (.minmax true [(.t 85),(.t 88)]),nK 90 81,fA 91 1153 90,sT 1 91 89]
 [])
 .skip))))))
 (.seq (.ops [l1 92 5,sT 1 2 92,on (.store 1 (.t 3) (cB true))])
 .ret))))))) }
def C.disk_journal_records : LFunc := { np := 1,res := [.tmp 2],keep := false,body :=
 (.seq (.ops [bX 1 1 0,mC 2 .nilf])
 (.seq (.ops [o 3 (.mkfn F.disk_journal_records_c1 [] [(.t 1)]),mT 2 3])
 .ret)) }
def C.disk_journal_counts : LFunc := { np := 2,res := [.tmp 4],keep := false,body :=
 (.seq (.ops [bX 3 7 1,mC 4 (.bool false)])
 (.seq (.draw [fA 5 0 3,fA 6 0 5,l1 7 6,mT 8 0,nK 9 8,fA 10 1153 9,l1 11 10,bN 12 .leq (.t 7) (.t 11),mT 4 12]
 [])
 .ret)) }
def C.R16_Crash : LFunc := { np := 2,res := [.cell 4 true 2,.tmp 5],keep := false,body :=
 (.seq (.ops [bX 2 2 0,o 4 (.alloc [(.cl []),(.cl [])]),mC 5 (.int .i64 0)])
 (.seq (.seq (.ops [lT 7 2 2,cL 8 F.R16_Formed [(.t 7)],nT 9 8,mT 10 9,gM 11 10 false 1,gN 12 10 false 11,gF 13 10 false 1 2,g1 14 10 false 13,gN 15 10 false 14,
 gB 16 10 false .neq (.t 12) (.t 15),pO 17 10 16])
 (.cond (.t 17)
 (.seq (.ops [o 18 (.build [(.cl []),(.cl [])] []),sT 2 4 18,mC 5 (.int .i64 2)])
 .ret)
 .skip))
 (.seq (.seq (.ops [mC 6 (.int .i64 0)])
 (.block 0 (.loop (.seq (.seq (.ops [mT 19 6,mT 20 1,lN 21 20,bN 22 .lss (.t 19) (.t 21)])
 (.cond (.t 22)
 .skip
 (.exit 0)))
 (.seq (.block 1 (.seq (.ops [mT 25 1,mT 26 6,iA 27 1 25 26,l1 28 27,cL 29 F.R16_in [(.t 28),(cI 0),(cI 24)],nT 30 29])
 (.cond (.t 30)
 (.seq (.ops [o 31 (.build [(.cl []),(.cl [])] []),sT 2 4 31,mC 5 (.int .i64 2)])
 .ret)
 .skip)))
 (.ops [mT 23 6,bN 24 .add (.t 23) (cI 1),mT 6 24]))))))
 (.seq (.ops [lT 32 2 2,mT 33 1,cL 34 F.R16_happened [(.t 32),(.t 33)],o 35 (.build [(.cl []),(.cl [])] [(0,1,(.t 34))]),sT 2 4 35,mC 5 (.int .i64 0)])
 .ret)))) }
def C.disk_journal_gain : LFunc := { np := 2,res := [.tmp 4],keep := false,body :=
 (.seq (.ops [mC 4 (.int .i64 0)])
 (.seq (.ops [mC 5 (.int .i64 0)])
 (.seq (.seq (.ops [mT 8 0,nK 9 8,fA 10 0 9,mT 11 1,bN 12 .mul (.t 11) (cI 8),mT 13 1,bN 14 .add (.t 13) (cI 1),bN 15 .mul (.t 14) (cI 8),
 o 16 (.sla 48 24 true (.t 10) (some (.t 12)) (some (.t 15))),lN 17 16,mC 18 (.int .i64 0)])
 (.block 0 (.loop (.seq (.ops [bN 19 .lss (.t 18) (.t 17)])
 (.seq (.cond (.t 19)
 .skip
 (.exit 0))
 (.seq (.block 1 (.seq (.ops [iA 20 24 16 18,lT 21 24 20,o 7 (.alloc (List.replicate 24 (.int .u8 0))),sT 24 7 21])
 (.seq (.ops [lT 22 24 7,o 23 (.build (List.replicate 24 (.int .u8 0)) []),
 o 24 (.bin .neq (.agg [.num,.num,.num,.num,.num,.num,.num,.num,.num,.num,.num,.num,.num,.num,.num,.num,.num,.num,.num,.num,.num,.num,.num,.num]) (.t 22) (.t 23))])
 (.cond (.t 24)
 (.ops [mT 25 5,bN 26 .add (.t 25) (cI 1),mT 5 26])
 .skip))))
 (.ops [bN 27 .add (.t 18) (cI 1),mT 18 27])))))))
 (.seq (.ops [mT 28 5,mT 29 0,mT 30 1,cL 31 F.disk_journal_copies [(.t 29),(.t 30)],lN 32 31,bN 33 .sub (.t 28) (.t 32),mT 4 33])
 .ret)))) }
def C.disk_journal_moved : LFunc := { np := 2,res := [.cell 4 true 1],keep := false,body :=
 (.seq (.ops [o 4 (.alloc [(.cl [])])])
 (.seq (.ops [o 5 (.alloc [(.cl [])])])
 (.seq (.ops [mT 9 0,mT 10 1,cL 11 F.disk_journal_copies [(.t 9),(.t 10)],mT 6 11])
 (.seq (.seq (.ops [mT 12 6,lN 13 12,bN 14 .eql (.t 13) (cI 0)])
 (.cond (.t 14)
 (.seq (.ops [lT 15 1 5,sT 1 4 15])
 .ret)
 .skip))
 (.seq (.ops [mT 16 6,mT 17 0,cL 18 F.disk_journal_loose [(.t 17)],o 19 (.append 1 (.t 16) (.t 18)),mT 6 19])
 (.seq (.ops [mT 20 6,o 21 (.icall (.f F.slices_Sort_s_int_int) [(.t 20)])])
 (.seq (.seq (.ops [mT 22 6,o 23 (.icall (.f F.slices_Compact_s_int_int) [(.t 22)]),lN 24 23,mC 25 (.int .i64 0)])
 (.block 0 (.loop (.seq (.ops [bN 26 .lss (.t 25) (.t 24)])
 (.seq (.cond (.t 26)
 .skip
 (.exit 0))
 (.seq (.block 1 (.seq (.ops [iA 27 1 23 25,l1 28 27,mT 8 28])
 (.ops [mT 29 0,mT 30 8,cL 31 F.disk_journal_again [(.t 29),(.t 30)],o 32 (.icall (.f F.disk_batch_add) [(.t 5),(.t 31)])])))
 (.ops [bN 33 .add (.t 25) (cI 1),mT 25 33])))))))
 (.seq (.ops [lT 34 1 5,sT 1 4 34])
 .ret)))))))) }
def C.disk_erase_step : LFunc := { np := 1,res := [.cell 2 true 3],keep := false,body :=
 (.seq (.ops [bX 1 1 0,o 2 (.alloc [(.int .i64 0),(.int .i64 0),(.str ⟨#[]⟩)])])
 (.seq (.ops [fA 3 0 1,l1 4 3,o 5 (.build [(.int .i64 0),(.int .i64 0),(.str ⟨#[]⟩)] [(0,1,(cI 2)),(1,1,(.t 4))]),sT 3 2 5])
 .ret)) }
def C.disk_sync_step : LFunc := { np := 1,res := [.cell 2 true 3],keep := false,body :=
 (.seq (.ops [bX 1 0 0,o 2 (.alloc [(.int .i64 0),(.int .i64 0),(.str ⟨#[]⟩)])])
 (.seq (.ops [o 3 (.build [(.int .i64 0),(.int .i64 0),(.str ⟨#[]⟩)] [(0,1,(cI 3))]),sT 3 2 3])
 .ret)) }
def C.disk_acted : LFunc := { np := 1,res := [.tmp 2,.tmp 3],keep := false,body :=
 (.seq (.ops [bX 1 3 0,mC 2 .nili,mC 3 (.bool false)])
 (.seq (.seq (.ops [fA 4 0 1,l1 5 4])
 (.block 0 (.seq (.ops [bN 7 .eql (.t 5) (cI 1),mT 6 7])
 (.cond (.t 6)
 (.seq (.draw [fA 8 1 1,l1 9 8,fA 10 2 1,l1 11 10,cL 12 F.disk_slot [(.t 11)],
 o 13 (.build ([(.int .i64 0)] ++ List.replicate 24 (.int .u8 0)) [(0,1,(.t 9)),(1,24,(.t 12))]),o 14 (.iface 134 (.t 13)),fA 15 1 1,l1 16 15,
 cL 17 F.disk_in [(.t 16),(cI 0),(cI 47)],mT 18 17,gF 19 18 true 2 1,g1 20 18 true 19,og 21 18 true (.len .str (.t 20)),gB 22 18 true .eql (.t 21) (cI 24),pA 23 18 22,
 mT 2 14,mT 3 23]
 [(1,4),(4,8),(1,9)])
 .ret)
 (.seq (.ops [bN 25 .eql (.t 5) (cI 2),mT 24 25])
 (.cond (.t 24)
 (.seq (.draw [fA 26 1 1,l1 27 26,o 28 (.build [(.int .i64 0)] [(0,1,(.t 27))]),o 29 (.iface 113 (.t 28)),fA 30 1 1,l1 31 30,cL 32 F.disk_in [(.t 31),(cI 0),(cI 5)],
 mT 33 32,gF 34 33 true 2 1,g1 35 33 true 34,og 36 33 true (.bin .eql .str (.t 35) (.c (.str ⟨#[]⟩))),pA 37 33 36,mT 2 29,mT 3 37]
 [(1,6)])
 .ret)
 .skip))))))
 (.seq (.draw [o 38 (.build [] []),o 39 (.iface 115 (.t 38)),lT 40 3 1,o 41 (.build [(.int .i64 0),(.int .i64 0),(.str ⟨#[]⟩)] [(0,1,(cI 3))]),
 o 42 (.bin .eql (.agg [.num,.num,.str]) (.t 40) (.t 41)),mT 2 39,mT 3 42]
 [])
 .ret))) }
def C.disk_device_allowed : LFunc := { np := 2,res := [.tmp 4],keep := false,body :=
 (.seq (.ops [mC 4 (.bool false)])
 (.seq (.seq (.ops [mT 7 1])
 (.block 0 (.seq (.ops [o 8 (.assert 134 (.agg [(.int .i64 0),(.int .u8 0),(.int .u8 0),(.int .u8 0),(.int .u8 0),(.int .u8 0),(.int .u8 0),(.int .u8 0),(.int .u8 0),(.int .u8 0),(.int .u8 0),(.int .u8 0),(.int .u8 0),(.int .u8 0),(.int .u8 0),(.int .u8 0),(.int .u8 0),(.int .u8 0),(.int .u8 0),(.int .u8 0),(.int .u8 0),(.int .u8 0),(.int .u8 0),(.int .u8 0),(.int .u8 0)]) true (.t 7)),
 o 9 (.ext 1 (.t 8)),o 10 (.ext 0 (.t 8))])
 (.cond (.t 9)
 (.seq (.ops [o 5 (.alloc ([(.int .i64 0)] ++ List.replicate 24 (.int .u8 0))),sT 25 5 10])
 (.seq (.draw [mT 11 0,fA 12 0 5,l1 13 12,nK 14 11,fA 15 0 14,o 16 (.iaa 48 24 (.t 15) (.t 13)),lT 17 24 16,o 18 (.build (List.replicate 24 (.int .u8 0)) []),
 o 19 (.bin .eql (.agg [.num,.num,.num,.num,.num,.num,.num,.num,.num,.num,.num,.num,.num,.num,.num,.num,.num,.num,.num,.num,.num,.num,.num,.num]) (.t 17) (.t 18)),
 mT 20 19,gM 21 20 true 0,og 22 20 true (.nilck (.t 21)),gF 23 20 true 1152 22,g1 24 20 true 23,og 25 20 true (.mkfn F.disk_device_allowed_c1 [] [(.t 5)]),
 gL 26 20 true F.slices_ContainsFunc_s_disk_act_disk_act [(.t 24),(.t 25)],og 27 20 true (.un .not (.t 26)),pA 28 20 27,mT 4 28]
 [])
 .ret))
 (.seq (.ops [o 29 (.assert 113 (.agg [(.int .i64 0)]) true (.t 7)),o 30 (.ext 1 (.t 29)),o 31 (.ext 0 (.t 29))])
 (.cond (.t 30)
 (.seq (.ops [o 6 (.alloc [(.int .i64 0)]),sT 1 6 31])
 (.seq (.ops [mT 32 0,nK 33 32,fA 34 1152 33,l1 35 34,o 36 (.mkfn F.disk_device_allowed_c2 [] [(.t 6)]),
 cL 37 F.slices_ContainsFunc_s_disk_act_disk_act [(.t 35),(.t 36)],nT 38 37,mT 4 38])
 .ret))
 .skip))))))
 (.seq (.ops [mC 4 (.bool true)])
 .ret))) }
def C.disk_device_do : LFunc := { np := 2,res := [],keep := false,body :=
 (.seq (.seq (.ops [mT 7 1,o 8 (.assert 115 (.agg []) true (.t 7)),mT 6 8,o 9 (.ext 0 (.t 6)),o 10 (.ext 1 (.t 6)),o 4 (.alloc []),sT 0 4 9,mT 5 10])
 (.seq (.ops [mT 11 5])
 (.cond (.t 11)
 (.seq (.ops [mT 12 0,o 13 (.icall (.f F.disk_device_settle) [(.t 12)])])
 .ret)
 .skip)))
 (.ops [mT 14 0,mT 15 0,nK 16 15,fA 17 1152 16,l1 18 17,mT 19 1,o 20 (.bslice 1 1 [.nili] [(0,(.t 19))]),o 21 (.append 1 (.t 18) (.t 20)),nK 22 14,fA 23 1152 22,
 sT 1 23 21])) }
def C.disk_device_closed : LFunc := { np := 1,res := [.cell 2 true 2],keep := false,body :=
 (.seq (.ops [o 2 (.alloc [(.cl []),(.cl [])])])
 (.seq (.ops [o 3 (.alloc [(.cl []),(.cl [])])])
 (.seq (.seq (.ops [mC 7 (.int .i64 0)])
 (.block 0 (.loop (.seq (.ops [bN 8 .lss (.t 7) (cI 48)])
 (.seq (.cond (.t 8)
 .skip
 (.exit 0))
 (.seq (.block 1 (.seq (.ops [mT 9 7,mT 4 9])
 (.draw [fA 10 0 3,l1 11 10,mT 12 0,mT 13 4,nK 14 12,fA 15 0 14,o 16 (.iaa 48 24 (.t 15) (.t 13)),o 17 (.sla 24 1 false (.t 16) none none),o 18 (.b2s (.t 17)),
 o 19 (.bslice 1 1 [(.str ⟨#[]⟩)] [(0,(.t 18))]),o 20 (.append 1 (.t 11) (.t 19)),fA 21 0 3,sT 1 21 20]
 [(1,9)])))
 (.ops [bN 22 .add (.t 7) (cI 1),mT 7 22])))))))
 (.seq (.seq (.ops [mT 23 0,nK 24 23,fA 25 1152 24,l1 26 25,lN 27 26,mC 28 (.int .i64 0)])
 (.block 2 (.loop (.seq (.ops [bN 29 .lss (.t 28) (.t 27)])
 (.seq (.cond (.t 29)
 .skip
 (.exit 2))
 (.seq (.block 3 (.seq (.ops [iA 30 1 26 28,l1 31 30,mT 6 31])
 (.draw [fA 32 1 3,l1 33 32,mT 34 6,o 35 (.call (.m [(113,F.disk_erase_step),(115,F.disk_sync_step),(134,F.disk_write_step)] 34) []),
 o 36 (.bslice 1 3 [(.int .i64 0),(.int .i64 0),(.str ⟨#[]⟩)] [(0,(.t 35))]),o 37 (.append 3 (.t 33) (.t 36)),fA 38 1 3,sT 1 38 37]
 [(1,3),(1,4)])))
 (.ops [bN 39 .add (.t 28) (cI 1),mT 28 39])))))))
 (.seq (.ops [lT 40 2 3,sT 2 2 40])
 .ret))))) }
def C.disk_in : LFunc := { np := 3,res := [.tmp 6],keep := false,body :=
 (.seq (.ops [mC 6 (.bool false)])
 (.seq (.ops [mT 7 0,mT 8 1,bN 9 .geq (.t 7) (.t 8),mT 10 9,gM 11 10 true 0,gM 12 10 true 2,gB 13 10 true .leq (.t 11) (.t 12),pA 14 10 13,mT 6 14])
 .ret)) }
def C.R16_in : LFunc := { np := 3,res := [.tmp 6],keep := false,body :=
 (.seq (.ops [mC 6 (.bool false)])
 (.seq (.ops [mT 7 0,mT 8 1,bN 9 .geq (.t 7) (.t 8),mT 10 9,gM 11 10 true 0,gM 12 10 true 2,gB 13 10 true .leq (.t 11) (.t 12),pA 14 10 13,mT 6 14])
 .ret)) }
def C.R16_text : LFunc := { np := 2,res := [.tmp 4],keep := false,body :=
 (.seq (.ops [mC 4 (.bool false)])
 (.seq (.ops [mT 5 1,o 6 (.len .str (.t 5)),bN 7 .leq (.t 6) (cI 12),mT 8 7,gM 9 8 true 0,gM 10 8 true 9,gM 11 10 false 1,
 og 12 10 false (.bin .eql .str (.t 11) (.c (.str ⟨#[]⟩))),og 13 8 true (.pick (.t 10) (cB true) (.t 12)),pA 14 8 13,mT 4 14])
 .ret)) }
def C.R16_zeros : LFunc := { np := 1,res := [.tmp 2],keep := false,body :=
 (.seq (.ops [mC 2 (.str ⟨#[]⟩)])
 (.seq (.ops [mC 3 (.str ⟨#[]⟩)])
 (.seq (.seq (.ops [mC 4 (.int .i64 0)])
 (.block 0 (.loop (.seq (.seq (.ops [mT 5 4,mT 6 0,bN 7 .lss (.t 5) (.t 6)])
 (.cond (.t 7)
 .skip
 (.exit 0)))
 (.seq (.block 1 (.ops [mT 10 3,o 11 (.bslice 1 1 [(.int .u8 0)] [(0,(.c (.int .u8 0)))]),o 12 (.b2s (.t 11)),o 13 (.bin .add .str (.t 10) (.t 12)),mT 3 13]))
 (.ops [mT 8 4,bN 9 .add (.t 8) (cI 1),mT 4 9]))))))
 (.seq (.ops [mT 14 3,mT 2 14])
 .ret)))) }
def C.slices_IndexFunc_s_api_DiskChange_api_DiskChange : LFunc := { np := 2,res := [.tmp 4],keep := false,body :=
 (.seq (.ops [mC 4 (.int .i64 0)])
 (.seq (.seq (.ops [mT 6 0,lN 7 6,mC 8 (.int .i64 0)])
 (.block 0 (.loop (.seq (.ops [bN 9 .lss (.t 8) (.t 7)])
 (.seq (.cond (.t 9)
 .skip
 (.exit 0))
 (.seq (.block 1 (.seq (.ops [mT 10 8,mT 5 10])
 (.seq (.ops [mT 11 1,mT 12 0,mT 13 5,iA 14 3 12 13,lT 15 3 14,o 16 (.call (.t 11) [(.t 15)])])
 (.cond (.t 16)
 (.seq (.ops [mT 17 5,mT 4 17])
 .ret)
 .skip))))
 (.ops [bN 18 .add (.t 8) (cI 1),mT 8 18])))))))
 (.seq (.ops [mC 4 (.int .i64 (-1))])
 .ret))) }
def C.slices_Sort_s_int_int : LFunc := { np := 1,res := [],keep := false,body :=
 (.seq (.ops [mT 3 0,lN 4 3,mT 2 4])
 (.ops [mT 5 0,mT 6 2,mT 7 2,o 8 (.wrap .u64 (.t 7)),cL 9 F.math_bits_Len [(.t 8)],o 10 (.icall (.f F.slices_pdqsortOrdered_int) [(.t 5),(cI 0),(.t 6),(.t 9)])])) }
def C.slices_Compact_s_int_int : LFunc := { np := 1,res := [.tmp 2],keep := false,body :=
 (.seq (.ops [mC 2 (.cl [])])
 (.seq (.seq (.ops [mT 6 0,lN 7 6,bN 8 .lss (.t 7) (cI 2)])
 (.cond (.t 8)
 (.seq (.ops [mT 9 0,mT 2 9])
 .ret)
 .skip))
 (.seq (.seq (.ops [mC 3 (.int .i64 1)])
 (.block 0 (.loop (.seq (.seq (.ops [mT 10 3,mT 11 0,lN 12 11,bN 13 .lss (.t 10) (.t 12)])
 (.cond (.t 13)
 .skip
 (.exit 0)))
 (.seq (.block 1 (.seq (.draw [mT 16 0,mT 17 3,iA 18 1 16 17,l1 19 18,mT 20 0,mT 21 3,bN 22 .sub (.t 21) (cI 1),iA 23 1 20 22,l1 24 23,bN 25 .eql (.t 19) (.t 24)]
 [])
 (.cond (.t 25)
 (.seq (.ops [mT 26 0,mT 27 3,o 28 (.slice false 1 (.t 26) (some (.t 27)) none none),mT 4 28])
 (.seq (.seq (.ops [mC 5 (.int .i64 1)])
 (.block 2 (.loop (.seq (.seq (.ops [mT 29 5,mT 30 4,lN 31 30,bN 32 .lss (.t 29) (.t 31)])
 (.cond (.t 32)
 .skip
 (.exit 2)))
 (.seq (.block 3 (.seq (.draw [mT 35 4,mT 36 5,iA 37 1 35 36,l1 38 37,mT 39 4,mT 40 5,bN 41 .sub (.t 40) (cI 1),iA 42 1 39 41,l1 43 42,bN 44 .neq (.t 38) (.t 43)]
 [])
 (.cond (.t 44)
 (.seq (.ops [mT 45 0,mT 46 3,mT 47 4,mT 48 5,iA 49 1 47 48,l1 50 49,iA 51 1 45 46,sT 1 51 50])
 (.ops [mT 52 3,bN 53 .add (.t 52) (cI 1),mT 3 53]))
 .skip)))
 (.ops [mT 33 5,bN 34 .add (.t 33) (cI 1),mT 5 34]))))))
 (.seq (.ops [mT 54 0,mT 55 3,o 56 (.slice false 1 (.t 54) (some (.t 55)) none none),on (.clr (.int .i64 0) (.t 56))])
 (.seq (.ops [mT 57 0,mT 58 3,o 59 (.slice false 1 (.t 57) none (some (.t 58)) none),mT 2 59])
 .ret))))
 .skip)))
 (.ops [mT 14 3,bN 15 .add (.t 14) (cI 1),mT 3 15]))))))
 (.seq (.ops [mT 60 0,mT 2 60])
 .ret)))) }
def C.disk_write_step : LFunc := { np := 1,res := [.cell 2 true 3],keep := false,body :=
 (.seq (.ops [bX 1 25 0,o 2 (.alloc [(.int .i64 0),(.int .i64 0),(.str ⟨#[]⟩)])])
 (.seq (.draw [fA 3 0 1,l1 4 3,fA 5 1 1,o 6 (.sla 24 1 false (.t 5) none none),o 7 (.b2s (.t 6)),
 o 8 (.build [(.int .i64 0),(.int .i64 0),(.str ⟨#[]⟩)] [(0,1,(cI 1)),(1,1,(.t 4)),(2,1,(.t 7))]),sT 3 2 8]
 [])
 .ret)) }
def C.R16_change : LFunc := { np := 1,res := [.tmp 2],keep := false,body :=
 (.seq (.ops [bX 1 3 0,mC 2 (.bool false)])
 (.seq (.ops [fA 3 0 1,l1 4 3,cL 5 F.R16_in [(.t 4),(cI 0),(cI 15)],mT 6 5,gF 7 6 true 1 1,g1 8 6 true 7,gF 9 6 true 2 1,g1 10 6 true 9,
 gL 11 6 true F.R16_text [(.t 8),(.t 10)],pA 12 6 11,mT 2 12])
 .ret)) }
def C.R16_wanted : LFunc := { np := 1,res := [.cell 2 true 5,.tmp 3],keep := false,body :=
 (.seq (.ops [bX 1 2 0,o 2 (.alloc [(.cl []),(.cl []),(.cl []),(.int .i64 0),(.int .i64 0)]),mC 3 (.int .i64 0)])
 (.seq (.seq (.ops [lT 6 2 1,cL 7 F.R16_Formed [(.t 6)],nT 8 7])
 (.cond (.t 8)
 (.seq (.ops [o 9 (.build [(.cl []),(.cl []),(.cl []),(.int .i64 0),(.int .i64 0)] []),sT 5 2 9,mC 3 (.int .i64 2)])
 .ret)
 .skip))
 (.seq (.seq (.ops [fA 10 1 1,l1 11 10,lN 12 11,bN 13 .gtr (.t 12) (cI 0)])
 (.cond (.t 13)
 (.seq (.ops [o 14 (.build [(.cl []),(.cl []),(.cl []),(.int .i64 0),(.int .i64 0)] []),sT 5 2 14,mC 3 (.int .i64 6)])
 .ret)
 .skip))
 (.seq (.ops [lT 16 2 1,cL 17 F.R16_logged [(.t 16)],mT 15 17,o 18 (.ext 0 (.t 15)),o 19 (.ext 1 (.t 15)),
 o 4 (.alloc [(.cl []),(.cl []),(.cl []),(.int .i64 0),(.int .i64 0)]),sT 5 4 18,mT 5 19])
 (.seq (.seq (.ops [mT 20 5,nT 21 20])
 (.cond (.t 21)
 (.seq (.ops [o 22 (.build [(.cl []),(.cl []),(.cl []),(.int .i64 0),(.int .i64 0)] []),sT 5 2 22,mC 3 (.int .i64 4)])
 .ret)
 .skip))
 (.seq (.ops [lT 23 5 4,sT 5 2 23,mC 3 (.int .i64 0)])
 .ret)))))) }
def C.R16_log_loose : LFunc := { np := 2,res := [.tmp 4],keep := false,body :=
 (.seq (.ops [bX 2 5 0,mC 4 (.bool false)])
 (.seq (.seq (.ops [mC 5 (.int .i64 0)])
 (.block 0 (.loop (.seq (.seq (.ops [mT 6 5,fA 7 1 2,l1 8 7,lN 9 8,bN 10 .lss (.t 6) (.t 9)])
 (.cond (.t 10)
 .skip
 (.exit 0)))
 (.seq (.block 1 (.seq (.draw [fA 13 2 2,l1 14 13,mT 15 5,iA 16 1 14 15,l1 17 16,mT 18 17,gF 19 18 true 1 2,g1 20 18 true 19,gM 21 18 true 5,
 og 22 18 true (.ia 6 (.t 20) (.t 21)),gF 23 18 true 3 22,g1 24 18 true 23,gM 25 18 true 1,gB 26 18 true .eql (.t 24) (.t 25),pA 27 18 26,mT 28 27,gF 29 28 true 1 2,
 g1 30 28 true 29,gM 31 28 true 5,og 32 28 true (.ia 6 (.t 30) (.t 31)),gF 33 28 true 0 32,g1 34 28 true 33,gF 35 28 true 3 2,g1 36 28 true 35,
 gB 37 28 true .gtr (.t 34) (.t 36),pA 38 28 37]
 [])
 (.cond (.t 38)
 (.seq (.ops [mC 4 (.bool true)])
 .ret)
 .skip)))
 (.ops [mT 11 5,bN 12 .add (.t 11) (cI 1),mT 5 12]))))))
 (.seq (.ops [mC 4 (.bool false)])
 .ret))) }
def C.R16_named : LFunc := { np := 2,res := [.tmp 4],keep := false,body :=
 (.seq (.ops [mC 4 (.bool false)])
 (.seq (.seq (.ops [mC 5 (.int .i64 0)])
 (.block 0 (.loop (.seq (.seq (.ops [mT 6 5,mT 7 0,lN 8 7,bN 9 .lss (.t 6) (.t 8)])
 (.cond (.t 9)
 .skip
 (.exit 0)))
 (.seq (.block 1 (.seq (.ops [mT 12 0,mT 13 5,iA 14 3 12 13,fA 15 0 14,l1 16 15,mT 17 1,bN 18 .eql (.t 16) (.t 17)])
 (.cond (.t 18)
 (.seq (.ops [mC 4 (.bool true)])
 .ret)
 .skip)))
 (.ops [mT 10 5,bN 11 .add (.t 10) (cI 1),mT 5 11]))))))
 (.seq (.ops [mC 4 (.bool false)])
 .ret))) }
def C.R16_log_again : LFunc := { np := 2,res := [.cell 4 true 6],keep := false,body :=
 (.seq (.ops [bX 2 5 0,o 4 (.alloc [(.int .i64 0),(.int .i64 0),(.int .i64 0),(.int .i64 0),(.bool false),(.str ⟨#[]⟩)])])
 (.seq (.ops [lT 6 5 2,mT 7 1,cL 8 F.R16_log_decides [(.t 6),(.t 7)],mT 5 8])
 (.seq (.seq (.ops [mT 9 5,bN 10 .lss (.t 9) (cI 0)])
 (.cond (.t 10)
 (.seq (.ops [mT 11 1,o 12 (.build [(.int .i64 0),(.int .i64 0),(.int .i64 0),(.int .i64 0),(.bool false),(.str ⟨#[]⟩)] [(3,1,(.t 11))]),sT 6 4 12])
 .ret)
 .skip))
 (.seq (.draw [mT 13 1,fA 14 1 2,l1 15 14,mT 16 5,iA 17 6 15 16,fA 18 4 17,l1 19 18,fA 20 1 2,l1 21 20,mT 22 5,iA 23 6 21 22,fA 24 5 23,l1 25 24,
 o 26 (.build [(.int .i64 0),(.int .i64 0),(.int .i64 0),(.int .i64 0),(.bool false),(.str ⟨#[]⟩)] [(3,1,(.t 13)),(4,1,(.t 19)),(5,1,(.t 25))]),sT 6 4 26]
 [])
 .ret)))) }
def C.R16_log_empties : LFunc := { np := 2,res := [.tmp 4],keep := false,body :=
 (.seq (.ops [bX 2 5 0,mC 4 (.cl [])])
 (.seq (.ops [mC 5 (.cl [])])
 (.seq (.seq (.ops [mC 6 (.int .i64 0)])
 (.block 0 (.loop (.seq (.seq (.ops [mT 7 6,fA 8 0 2,l1 9 8,lN 10 9,bN 11 .lss (.t 7) (.t 10)])
 (.cond (.t 11)
 .skip
 (.exit 0)))
 (.seq (.block 1 (.seq (.ops [fA 14 0 2,l1 15 14,mT 16 6,iA 17 1 15 16,l1 18 17,
 o 19 (.bin .eql .str (.t 18) (.c (.str ⟨#[0,0,0,0,0,0,0,0,0,0,0,0,0,0,0,0,0,0,0,0,0,0,0,0]⟩))),mT 20 19,gM 21 20 true 6,gB 22 20 true .quo (.t 21) (cI 8),
 gM 23 20 true 1,gB 24 20 true .neq (.t 22) (.t 23),pA 25 20 24])
 (.cond (.t 25)
 (.ops [mT 26 5,mT 27 6,o 28 (.bslice 1 1 [(.int .i64 0)] [(0,(.t 27))]),o 29 (.append 1 (.t 26) (.t 28)),mT 5 29])
 .skip)))
 (.ops [mT 12 6,bN 13 .add (.t 12) (cI 1),mT 6 13]))))))
 (.seq (.ops [mT 30 5,mT 4 30])
 .ret)))) }
def C.R16_log_written : LFunc := { np := 3,res := [.tmp 6,.tmp 7],keep := false,body :=
 (.seq (.ops [bX 3 5 0,mC 6 (.cl []),mC 7 (.int .i64 0)])
 (.seq (.seq (.ops [fA 11 4 3,l1 12 11,mT 13 1,lN 14 13,bN 15 .add (.t 12) (.t 14),bN 16 .sub (.t 15) (cI 1),bN 17 .gtr (.t 16) (cI 1000000000)])
 (.cond (.t 17)
 (.seq (.ops [mC 6 (.cl []),mC 7 (.int .i64 3)])
 .ret)
 .skip))
 (.seq (.ops [mC 8 (.cl [])])
 (.seq (.seq (.ops [mC 9 (.int .i64 0)])
 (.block 0 (.loop (.seq (.seq (.ops [mT 18 9,mT 19 1,lN 20 19,bN 21 .lss (.t 18) (.t 20)])
 (.cond (.t 21)
 .skip
 (.exit 0)))
 (.seq (.block 1 (.seq (.ops [mT 24 1,mT 25 9,iA 26 6 24 25,lT 27 6 26,
 o 10 (.alloc [(.int .i64 0),(.int .i64 0),(.int .i64 0),(.int .i64 0),(.bool false),(.str ⟨#[]⟩)]),sT 6 10 27])
 (.seq (.ops [fA 28 4 3,l1 29 28,mT 30 9,bN 31 .add (.t 29) (.t 30),mT 32 9,mT 33 1,lN 34 33,fA 35 0 10,sT 1 35 31,fA 36 1 10,sT 1 36 32,fA 37 2 10,sT 1 37 34])
 (.draw [mT 38 8,mT 39 2,mT 40 9,iA 41 1 39 40,l1 42 41,lT 43 6 10,cL 44 F.R16_write [(.t 43)],
 o 45 (.build [(.int .i64 0),(.int .i64 0),(.str ⟨#[]⟩)] [(0,1,(cI 1)),(1,1,(.t 42)),(2,1,(.t 44))]),
 o 46 (.bslice 1 3 [(.int .i64 0),(.int .i64 0),(.str ⟨#[]⟩)] [(0,(.t 45))]),o 47 (.append 3 (.t 38) (.t 46)),mT 8 47]
 [(3,6),(4,6)]))))
 (.ops [mT 22 9,bN 23 .add (.t 22) (cI 1),mT 9 23]))))))
 (.seq (.ops [mT 48 8,o 49 (.build [(.int .i64 0),(.int .i64 0),(.str ⟨#[]⟩)] [(0,1,(cI 3))]),
 o 50 (.bslice 1 3 [(.int .i64 0),(.int .i64 0),(.str ⟨#[]⟩)] [(0,(.t 49))]),o 51 (.append 3 (.t 48) (.t 50)),mT 6 51,mC 7 (.int .i64 0)])
 .ret))))) }
def C.R16_Formed : LFunc := { np := 1,res := [.tmp 2],keep := false,body :=
 (.seq (.ops [bX 1 2 0,mC 2 (.bool false)])
 (.seq (.seq (.ops [fA 6 0 1,l1 7 6,lN 8 7,bN 9 .neq (.t 8) (cI 48),mT 10 9,gF 11 10 false 1 1,g1 12 10 false 11,gN 13 10 false 12,gB 14 10 false .gtr (.t 13) (cI 100),
 pO 15 10 14])
 (.cond (.t 15)
 (.seq (.ops [mC 2 (.bool false)])
 .ret)
 .skip))
 (.seq (.seq (.ops [mC 3 (.int .i64 0)])
 (.block 0 (.loop (.seq (.seq (.ops [mT 16 3,fA 17 0 1,l1 18 17,lN 19 18,bN 20 .lss (.t 16) (.t 19)])
 (.cond (.t 20)
 .skip
 (.exit 0)))
 (.seq (.block 1 (.seq (.ops [fA 23 0 1,l1 24 23,mT 25 3,iA 26 1 24 25,l1 27 26,o 28 (.len .str (.t 27)),bN 29 .neq (.t 28) (cI 24)])
 (.cond (.t 29)
 (.seq (.ops [mC 2 (.bool false)])
 .ret)
 .skip)))
 (.ops [mT 21 3,bN 22 .add (.t 21) (cI 1),mT 3 22]))))))
 (.seq (.seq (.ops [mC 4 (.int .i64 0)])
 (.block 2 (.loop (.seq (.seq (.ops [mT 30 4,fA 31 1 1,l1 32 31,lN 33 32,bN 34 .lss (.t 30) (.t 33)])
 (.cond (.t 34)
 .skip
 (.exit 2)))
 (.seq (.block 3 (.seq (.draw [fA 37 0 1,l1 38 37,fA 39 1 1,l1 40 39,mT 41 4,o 42 (.slice false 3 (.t 40) none (some (.t 41)) none),
 o 43 (.build [(.cl []),(.cl [])] [(0,1,(.t 38)),(1,1,(.t 42))]),o 5 (.alloc [(.cl []),(.cl [])]),sT 2 5 43]
 [(1,7),(3,7),(5,7)])
 (.seq (.draw [fA 44 1 1,l1 45 44,mT 46 4,iA 47 3 45 46,fA 48 0 47,l1 49 48,bN 50 .eql (.t 49) (cI 3),mT 51 50,gF 52 51 false 1 1,g1 53 51 false 52,gM 54 51 false 4,
 og 55 51 false (.ia 3 (.t 53) (.t 54)),gT 56 51 false 3 55,gL 57 51 false F.R16_stepped [(.t 56)],og 58 51 false (.un .not (.t 57)),pO 59 51 58,mT 60 59,
 gT 61 60 false 2 5,gF 62 60 false 1 1,g1 63 60 false 62,gM 64 60 false 4,og 65 60 false (.ia 3 (.t 63) (.t 64)),gT 66 60 false 3 65,
 gL 67 60 false F.R16_allowed [(.t 61),(.t 66)],og 68 60 false (.un .not (.t 67)),pO 69 60 68]
 [])
 (.cond (.t 69)
 (.seq (.ops [mC 2 (.bool false)])
 .ret)
 .skip))))
 (.ops [mT 35 4,bN 36 .add (.t 35) (cI 1),mT 4 36]))))))
 (.seq (.ops [mC 2 (.bool true)])
 .ret))))) }
def C.R16_stepped : LFunc := { np := 1,res := [.tmp 2],keep := false,body :=
 (.seq (.ops [bX 1 3 0,mC 2 (.bool false)])
 (.seq (.seq (.ops [fA 3 0 1,l1 4 3])
 (.block 0 (.seq (.ops [bN 6 .eql (.t 4) (cI 1),mT 5 6])
 (.cond (.t 5)
 (.seq (.ops [fA 7 1 1,l1 8 7,cL 9 F.R16_in [(.t 8),(cI 0),(cI 47)],mT 10 9,gF 11 10 true 2 1,g1 12 10 true 11,og 13 10 true (.len .str (.t 12)),
 gB 14 10 true .eql (.t 13) (cI 24),pA 15 10 14,mT 2 15])
 .ret)
 (.seq (.ops [bN 17 .eql (.t 4) (cI 2),mT 16 17])
 (.cond (.t 16)
 (.seq (.ops [fA 18 1 1,l1 19 18,cL 20 F.R16_in [(.t 19),(cI 0),(cI 5)],mT 21 20,gF 22 21 true 2 1,g1 23 21 true 22,
 og 24 21 true (.bin .eql .str (.t 23) (.c (.str ⟨#[]⟩))),pA 25 21 24,mT 2 25])
 .ret)
 (.seq (.ops [bN 27 .eql (.t 4) (cI 3),mT 26 27])
 (.cond (.t 26)
 (.seq (.ops [fA 28 1 1,l1 29 28,bN 30 .eql (.t 29) (cI 0),mT 31 30,gF 32 31 true 2 1,g1 33 31 true 32,og 34 31 true (.bin .eql .str (.t 33) (.c (.str ⟨#[]⟩))),
 pA 35 31 34,mT 2 35])
 .ret)
 .skip))))))))
 (.seq (.ops [mC 2 (.bool false)])
 .ret))) }
def C.R16_allowed : LFunc := { np := 2,res := [.tmp 4],keep := false,body :=
 (.seq (.ops [bX 2 2 0,bX 3 3 1,mC 4 (.bool false)])
 (.seq (.seq (.ops [fA 8 0 3,l1 9 8,bN 10 .eql (.t 9) (cI 3)])
 (.cond (.t 10)
 (.seq (.ops [mC 4 (.bool true)])
 .ret)
 .skip))
 (.seq (.seq (.ops [mC 5 (.int .i64 0)])
 (.block 0 (.loop (.seq (.seq (.ops [mT 11 5,fA 12 1 2,l1 13 12,lN 14 13,bN 15 .lss (.t 11) (.t 14)])
 (.cond (.t 15)
 .skip
 (.exit 0)))
 (.seq (.block 1 (.seq (.ops [fA 18 1 2,l1 19 18,mT 20 5,iA 21 3 19 20,lT 22 3 21,o 6 (.alloc [(.int .i64 0),(.int .i64 0),(.str ⟨#[]⟩)]),sT 3 6 22])
 (.seq (.ops [fA 23 1 6,l1 24 23,fA 25 1 3,l1 26 25,bN 27 .eql (.t 24) (.t 26),mT 7 27])
 (.seq (.seq (.ops [fA 28 0 6,l1 29 28,fA 30 0 3,l1 31 30,bN 32 .neq (.t 29) (.t 31),mT 33 32,gF 34 33 true 0 3,g1 35 33 true 34,gB 36 33 true .eql (.t 35) (cI 1),
 pA 37 33 36])
 (.cond (.t 37)
 (.ops [fA 38 1 6,l1 39 38,fA 40 1 3,l1 41 40,bN 42 .quo (.t 41) (cI 8),bN 43 .eql (.t 39) (.t 42),mT 7 43])
 (.seq (.ops [fA 44 0 6,l1 45 44,fA 46 0 3,l1 47 46,bN 48 .neq (.t 45) (.t 47)])
 (.cond (.t 48)
 (.ops [fA 49 1 6,l1 50 49,bN 51 .quo (.t 50) (cI 8),fA 52 1 3,l1 53 52,bN 54 .eql (.t 51) (.t 53),mT 7 54])
 .skip))))
 (.seq (.ops [mT 55 7])
 (.cond (.t 55)
 (.seq (.ops [mC 4 (.bool false)])
 .ret)
 .skip))))))
 (.ops [mT 16 5,bN 17 .add (.t 16) (cI 1),mT 5 17]))))))
 (.seq (.ops [fA 56 0 3,l1 57 56,bN 58 .eql (.t 57) (cI 2),mT 59 58,gF 60 59 false 0 2,g1 61 59 false 60,gF 62 59 false 1 3,g1 63 59 false 62,
 og 64 59 false (.ia 1 (.t 61) (.t 63)),g1 65 59 false 64,og 66 59 false (.bin .eql .str (.t 65) (.c (.str ⟨#[0,0,0,0,0,0,0,0,0,0,0,0,0,0,0,0,0,0,0,0,0,0,0,0]⟩))),
 pO 67 59 66,mT 4 67])
 .ret)))) }
def C.R16_settled : LFunc := { np := 1,res := [.tmp 2],keep := false,body :=
 (.seq (.ops [bX 1 2 0,mC 2 (.cl [])])
 (.seq (.draw [lT 3 2 1,fA 4 1 1,l1 5 4,lN 6 5,cL 7 F.R16_whole [(.t 6)],cL 8 F.R16_happened [(.t 3),(.t 7)],mT 2 8]
 [(0,4)])
 .ret)) }
def C.slices_Clone_s_disk_act_disk_act : LFunc := { np := 1,res := [.tmp 2],keep := true,amb := true,body :=
 (.seq (.ops [mC 2 (.cl [])])
 (.seq (.seq (.ops [mT 3 0,o 4 (.bin .eql .slice (.t 3) (.c (.es true)))])
 (.cond (.t 4)
 (.seq (.ops [mC 2 (.cl [])])
 .ret)
 .skip))
 (.seq (.ops [o 5 (.bslice 0 1 [.nili] []),mT 6 0,o 7 (.append 1 (.t 5) (.t 6)),mT 2 7])
 .ret))) }
def C.disk_device_settle : LFunc := { np := 1,res := [],keep := false,body :=
 (.seq (.seq (.ops [mT 4 0,nK 5 4,fA 6 1152 5,l1 7 6,lN 8 7,mC 9 (.int .i64 0)])
 (.block 0 (.loop (.seq (.ops [bN 10 .lss (.t 9) (.t 8)])
 (.seq (.cond (.t 10)
 .skip
 (.exit 0))
 (.seq (.block 1 (.seq (.ops [iA 11 1 7 9,l1 12 11,mT 3 12])
 (.ops [mT 13 0,mT 14 3,o 15 (.icall (.f F.disk_device_crash) [(.t 13),(.t 14),(cI 24)])])))
 (.ops [bN 16 .add (.t 9) (cI 1),mT 9 16])))))))
 (.ops [mT 17 0,nK 18 17,fA 19 1152 18,on (.store 1 (.t 19) (.c (.cl [])))])) }
def C.disk_journal_complete : LFunc := { np := 2,res := [.tmp 4],keep := false,body :=
 (.seq (.ops [bX 3 7 1,mC 4 (.bool false)])
 (.seq (.seq (.ops [fA 8 0 3,fA 9 2 8,l1 10 9,mC 11 (.int .i64 0)])
 (.block 0 (.loop (.seq (.ops [bN 12 .lss (.t 11) (.t 10)])
 (.seq (.cond (.t 12)
 .skip
 (.exit 0))
 (.seq (.block 1 (.seq (.ops [mT 13 11,mT 5 13])
 (.seq (.draw [mT 15 0,nK 16 15,fA 17 1152 16,l1 18 17,fA 19 0 3,fA 20 0 19,l1 21 20,fA 22 0 3,fA 23 1 22,l1 24 23,bN 25 .sub (.t 21) (.t 24),mT 26 5,
 bN 27 .add (.t 25) (.t 26),
 o 28 (.mget .num (.agg [(.int .i64 0),(.int .i64 0),(.int .i64 0),(.int .i64 0),(.bool false),(.str ⟨#[]⟩),(.int .i64 0)]) true (.t 18) (.t 27)),mT 14 28,
 o 29 (.ext 0 (.t 14)),o 30 (.ext 1 (.t 14)),o 6 (.alloc [(.int .i64 0),(.int .i64 0),(.int .i64 0),(.int .i64 0),(.bool false),(.str ⟨#[]⟩),(.int .i64 0)]),sT 7 6 29,
 mT 7 30]
 [(3,17),(6,17),(9,17),(13,17)])
 (.seq (.ops [mT 31 7,nT 32 31,mT 33 32,gF 34 33 false 0 6,gF 35 33 false 1 34,g1 36 33 false 35,gM 37 33 false 5,gB 38 33 false .neq (.t 36) (.t 37),pO 39 33 38,
 mT 40 39,gF 41 40 false 0 6,gF 42 40 false 2 41,g1 43 40 false 42,gF 44 40 false 0 3,gF 45 40 false 2 44,g1 46 40 false 45,gB 47 40 false .neq (.t 43) (.t 46),
 pO 48 40 47])
 (.cond (.t 48)
 (.seq (.ops [mC 4 (.bool false)])
 .ret)
 .skip)))))
 (.ops [bN 49 .add (.t 11) (cI 1),mT 11 49])))))))
 (.seq (.ops [mC 4 (.bool true)])
 .ret))) }
def C.disk_journal_records_c1 : LFunc := { np := 2,res := [],keep := false,body :=
 (.seq (.ops [l1 7 1,nK 8 7,fA 9 0 8,lT 10 1152 9,mC 11 (.int .i64 0)])
 (.block 0 (.loop (.seq (.ops [bN 12 .lss (.t 11) (cI 48)])
 (.seq (.cond (.t 12)
 .skip
 (.exit 0))
 (.seq (.block 1 (.seq (.ops [mT 13 11,o 14 (.ixa true 48 24 (.t 10) (.t 11)),o 4 (.alloc (List.replicate 24 (.int .u8 0))),mT 3 13,sT 24 4 14])
 (.seq (.ops [lT 16 24 4,cL 17 F.disk_decode [(.t 16)],mT 15 17,o 18 (.ext 0 (.t 15)),o 19 (.ext 1 (.t 15)),
 o 5 (.alloc [(.int .i64 0),(.int .i64 0),(.int .i64 0),(.int .i64 0),(.bool false),(.str ⟨#[]⟩)]),sT 6 5 18,mT 6 19])
 (.seq (.ops [mT 20 6,mT 21 20,gM 22 21 true 0,gT 23 21 true 6 5,gM 24 21 true 3,
 og 25 21 true (.build [(.int .i64 0),(.int .i64 0),(.int .i64 0),(.int .i64 0),(.bool false),(.str ⟨#[]⟩),(.int .i64 0)] [(0,6,(.t 23)),(6,1,(.t 24))]),
 og 26 21 true (.icall (.t 22) [(.t 25)]),og 27 21 true (.un .not (.t 26)),pA 28 21 27])
 (.cond (.t 28)
 .ret
 .skip)))))
 (.ops [bN 29 .add (.t 11) (cI 1),mT 11 29]))))))) }
def C.R16_happened : LFunc := { np := 2,res := [.tmp 4],keep := false,body :=
 (.seq (.ops [bX 2 2 0,mC 4 (.cl [])])
 (.seq (.ops [fA 11 0 2,l1 12 11,o 13 (.append 1 (.c (.cl [])) (.t 12)),mT 5 13])
 (.seq (.seq (.ops [mC 6 (.int .i64 0)])
 (.block 0 (.loop (.seq (.seq (.ops [mT 14 6,fA 15 1 2,l1 16 15,lN 17 16,bN 18 .lss (.t 14) (.t 17)])
 (.cond (.t 18)
 .skip
 (.exit 0)))
 (.seq (.block 1 (.seq (.draw [fA 21 1 2,l1 22 21,mT 23 6,iA 24 3 22 23,lT 25 3 24,mT 26 1,mT 27 6,iA 28 1 26 27,l1 29 28,
 o 7 (.alloc [(.int .i64 0),(.int .i64 0),(.str ⟨#[]⟩)]),sT 3 7 25,mT 8 29]
 [(1,9),(3,9),(4,9),(7,9),(8,9),(7,10),(8,10)])
 (.seq (.seq (.ops [fA 30 0 7,l1 31 30,bN 32 .eql (.t 31) (cI 1)])
 (.cond (.t 32)
 (.seq (.draw [mT 33 5,fA 34 1 7,l1 35 34,mT 36 5,fA 37 1 7,l1 38 37,iA 39 1 36 38,l1 40 39,fA 41 2 7,l1 42 41,mT 43 8,cL 44 F.R16_begun [(.t 40),(.t 42),(.t 43)],
 iA 45 1 33 35,sT 1 45 44]
 [(2,11)])
 (.exit 1))
 .skip))
 (.seq (.ops [mC 9 (.int .i64 0)])
 (.block 2 (.loop (.seq (.seq (.ops [mT 46 9,bN 47 .lss (.t 46) (cI 8)])
 (.cond (.t 47)
 .skip
 (.exit 2)))
 (.seq (.block 3 (.seq (.ops [mT 50 8,mT 51 9,bN 52 .add (.t 51) (cI 1),bN 53 .mul (.t 50) (.t 52),bN 54 .rem (.t 53) (cI 25),mT 10 54])
 (.seq (.seq (.ops [mT 55 8,bN 56 .eql (.t 55) (cI 24)])
 (.cond (.t 56)
 (.ops [mC 10 (.int .i64 24)])
 .skip))
 (.draw [mT 57 5,fA 58 1 7,l1 59 58,bN 60 .mul (.t 59) (cI 8),mT 61 9,bN 62 .add (.t 60) (.t 61),mT 63 5,fA 64 1 7,l1 65 64,bN 66 .mul (.t 65) (cI 8),mT 67 9,
 bN 68 .add (.t 66) (.t 67),iA 69 1 63 68,l1 70 69,mT 71 10,cL 72 F.R16_begun [(.t 70),(.c (.str ⟨#[0,0,0,0,0,0,0,0,0,0,0,0,0,0,0,0,0,0,0,0,0,0,0,0]⟩)),(.t 71)],
 iA 73 1 57 62,sT 1 73 72]
 [(2,15)]))))
 (.ops [mT 48 9,bN 49 .add (.t 48) (cI 1),mT 9 49])))))))))
 (.ops [mT 19 6,bN 20 .add (.t 19) (cI 1),mT 6 20]))))))
 (.seq (.ops [mT 74 5,mT 4 74])
 .ret)))) }
def C.disk_journal_copies : LFunc := { np := 2,res := [.tmp 4],keep := true,body :=
 (.seq (.ops [mC 4 (.cl [])])
 (.seq (.ops [mC 5 (.cl [])])
 (.seq (.seq (.ops [mC 11 (.int .i64 0)])
 (.block 0 (.loop (.seq (.ops [bN 12 .lss (.t 11) (cI 16)])
 (.seq (.cond (.t 12)
 .skip
 (.exit 0))
 (.seq (.block 1 (.seq (.ops [mT 13 11,mT 6 13])
 (.seq (.ops [mT 15 0,mT 16 6,cL 17 F.disk_journal_deciding [(.t 15),(.t 16)],mT 14 17,o 18 (.ext 0 (.t 14)),o 19 (.ext 1 (.t 14)),
 o 7 (.alloc [(.int .i64 0),(.int .i64 0),(.int .i64 0),(.int .i64 0),(.bool false),(.str ⟨#[]⟩),(.int .i64 0)]),sT 7 7 18,mT 8 19])
 (.seq (.ops [mT 20 8,mT 21 20,gT 22 21 true 7 7,gL 23 21 true F.disk_placed_segment [(.t 22)],gM 24 21 true 1,gB 25 21 true .eql (.t 23) (.t 24),pA 26 21 25,mT 27 26,
 gF 28 27 true 0 7,gF 29 27 true 4 28,g1 30 27 true 29,gM 31 27 true 30,gM 32 31 false 0,gT 33 31 false 7 7,gL 34 31 false F.disk_journal_another [(.t 32),(.t 33)],
 og 35 27 true (.pick (.t 31) (cB true) (.t 34)),pA 36 27 35])
 (.cond (.t 36)
 (.ops [mT 37 5,mT 38 6,o 39 (.bslice 1 1 [(.int .i64 0)] [(0,(.t 38))]),o 40 (.append 1 (.t 37) (.t 39)),mT 5 40])
 .skip)))))
 (.ops [bN 41 .add (.t 11) (cI 1),mT 11 41])))))))
 (.seq (.seq (.ops [mT 42 5,lN 43 42,bN 44 .gtr (.t 43) (cI 0),mT 45 44,gM 46 45 false 0,og 47 45 false (.nilck (.t 46)),gF 48 45 false 1153 47,g1 49 45 false 48,
 gB 50 45 false .eql (.t 49) (cI 0),pO 51 45 50])
 (.cond (.t 51)
 (.seq (.ops [mT 52 5,mT 4 52])
 .ret)
 .skip))
 (.seq (.draw [mT 53 0,nK 54 53,fA 55 1152 54,l1 56 55,mT 57 0,nK 58 57,fA 59 1153 58,l1 60 59,
 o 61 (.mget .num (.agg [(.int .i64 0),(.int .i64 0),(.int .i64 0),(.int .i64 0),(.bool false),(.str ⟨#[]⟩),(.int .i64 0)]) false (.t 56) (.t 60)),
 o 9 (.alloc [(.int .i64 0),(.int .i64 0),(.int .i64 0),(.int .i64 0),(.bool false),(.str ⟨#[]⟩),(.int .i64 0)]),sT 7 9 61]
 [(3,9),(7,9),(8,9)])
 (.seq (.seq (.ops [fA 62 0 9,fA 63 2 62,l1 64 63,mC 65 (.int .i64 0)])
 (.block 2 (.loop (.seq (.ops [bN 66 .lss (.t 65) (.t 64)])
 (.seq (.cond (.t 66)
 .skip
 (.exit 2))
 (.seq (.block 3 (.seq (.ops [mT 67 65,mT 10 67])
 (.seq (.draw [mT 68 0,nK 69 68,fA 70 1152 69,l1 71 70,fA 72 0 9,fA 73 0 72,l1 74 73,mT 75 10,bN 76 .sub (.t 74) (.t 75),
 o 77 (.mget .num (.agg [(.int .i64 0),(.int .i64 0),(.int .i64 0),(.int .i64 0),(.bool false),(.str ⟨#[]⟩),(.int .i64 0)]) false (.t 71) (.t 76)),
 cL 78 F.disk_placed_segment [(.t 77)],mT 79 1,bN 80 .eql (.t 78) (.t 79)]
 [])
 (.cond (.t 80)
 (.seq (.ops [fA 81 0 9,fA 82 3 81,l1 83 82,o 84 (.bslice 1 1 [(.int .i64 0)] [(0,(.t 83))]),mT 4 84])
 .ret)
 .skip))))
 (.ops [bN 85 .add (.t 65) (cI 1),mT 65 85])))))))
 (.seq (.ops [mC 4 (.cl [])])
 .ret))))))) }
def C.slices_ContainsFunc_s_disk_act_disk_act : LFunc := { np := 2,res := [.tmp 4],keep := false,body :=
 (.seq (.ops [mC 4 (.bool false)])
 (.seq (.ops [mT 5 0,mT 6 1,cL 7 F.slices_IndexFunc_s_disk_act_disk_act [(.t 5),(.t 6)],bN 8 .geq (.t 7) (cI 0),mT 4 8])
 .ret)) }
def C.disk_device_allowed_c1 : LFunc := { np := 2,res := [.tmp 3],keep := false,body :=
 (.seq (.ops [mC 3 (.bool false)])
 (.seq (.ops [mT 9 0,
 o 10 (.assert 134 (.agg [(.int .i64 0),(.int .u8 0),(.int .u8 0),(.int .u8 0),(.int .u8 0),(.int .u8 0),(.int .u8 0),(.int .u8 0),(.int .u8 0),(.int .u8 0),(.int .u8 0),(.int .u8 0),(.int .u8 0),(.int .u8 0),(.int .u8 0),(.int .u8 0),(.int .u8 0),(.int .u8 0),(.int .u8 0),(.int .u8 0),(.int .u8 0),(.int .u8 0),(.int .u8 0),(.int .u8 0),(.int .u8 0)]) true (.t 9)),
 mT 8 10,o 11 (.ext 0 (.t 8)),o 12 (.ext 1 (.t 8)),o 4 (.alloc ([(.int .i64 0)] ++ List.replicate 24 (.int .u8 0))),sT 25 4 11,mT 5 12])
 (.seq (.ops [mT 14 0,o 15 (.assert 113 (.agg [(.int .i64 0)]) true (.t 14)),mT 13 15,o 16 (.ext 0 (.t 13)),o 17 (.ext 1 (.t 13)),o 6 (.alloc [(.int .i64 0)]),
 sT 1 6 16,mT 7 17])
 (.seq (.ops [mT 18 5,mT 19 18,gF 20 19 true 0 4,g1 21 19 true 20,gF 22 19 true 0 1,g1 23 19 true 22,gB 24 19 true .eql (.t 21) (.t 23),pA 25 19 24,mT 26 25,
 gM 27 26 false 7,gM 28 26 false 27,gF 29 28 true 0 6,g1 30 28 true 29,gF 31 28 true 0 1,g1 32 28 true 31,gB 33 28 true .quo (.t 32) (cI 8),
 gB 34 28 true .eql (.t 30) (.t 33),og 35 26 false (.pick (.t 28) (.t 34) (cB false)),pO 36 26 35,mT 3 36])
 .ret)))) }
def C.disk_device_allowed_c2 : LFunc := { np := 2,res := [.tmp 3],keep := false,body :=
 (.seq (.ops [mC 3 (.bool false)])
 (.seq (.ops [mT 9 0,
 o 10 (.assert 134 (.agg [(.int .i64 0),(.int .u8 0),(.int .u8 0),(.int .u8 0),(.int .u8 0),(.int .u8 0),(.int .u8 0),(.int .u8 0),(.int .u8 0),(.int .u8 0),(.int .u8 0),(.int .u8 0),(.int .u8 0),(.int .u8 0),(.int .u8 0),(.int .u8 0),(.int .u8 0),(.int .u8 0),(.int .u8 0),(.int .u8 0),(.int .u8 0),(.int .u8 0),(.int .u8 0),(.int .u8 0),(.int .u8 0)]) true (.t 9)),
 mT 8 10,o 11 (.ext 0 (.t 8)),o 12 (.ext 1 (.t 8)),o 4 (.alloc ([(.int .i64 0)] ++ List.replicate 24 (.int .u8 0))),sT 25 4 11,mT 5 12])
 (.seq (.ops [mT 14 0,o 15 (.assert 113 (.agg [(.int .i64 0)]) true (.t 14)),mT 13 15,o 16 (.ext 0 (.t 13)),o 17 (.ext 1 (.t 13)),o 6 (.alloc [(.int .i64 0)]),
 sT 1 6 16,mT 7 17])
 (.seq (.ops [mT 18 5,mT 19 18,gF 20 19 true 0 4,g1 21 19 true 20,gB 22 19 true .quo (.t 21) (cI 8),gF 23 19 true 0 1,g1 24 19 true 23,
 gB 25 19 true .eql (.t 22) (.t 24),pA 26 19 25,mT 27 26,gM 28 27 false 7,gM 29 27 false 28,gF 30 29 true 0 6,g1 31 29 true 30,gF 32 29 true 0 1,g1 33 29 true 32,
 gB 34 29 true .eql (.t 31) (.t 33),og 35 27 false (.pick (.t 29) (.t 34) (cB false)),pO 36 27 35,mT 3 36])
 .ret)))) }
def C.slices_pdqsortOrdered_int : LFunc := { np := 4,res := [],keep := false,body :=
 (.seq (.ops [mC 8 (.bool true)])
 (.seq (.ops [mC 9 (.bool true)])
 (.block 0 (.loop (.block 1 (.seq (.ops [mT 19 2,mT 20 1,bN 21 .sub (.t 19) (.t 20),mT 10 21])
 (.seq (.seq (.ops [mT 22 10,bN 23 .leq (.t 22) (cI 12)])
 (.cond (.t 23)
 (.seq (.ops [mT 24 0,mT 25 1,mT 26 2,o 27 (.icall (.f F.slices_insertionSortOrdered_int) [(.t 24),(.t 25),(.t 26)])])
 .ret)
 .skip))
 (.seq (.seq (.ops [mT 28 3,bN 29 .eql (.t 28) (cI 0)])
 (.cond (.t 29)
 (.seq (.ops [mT 30 0,mT 31 1,mT 32 2,o 33 (.icall (.f F.slices_heapSortOrdered_int) [(.t 30),(.t 31),(.t 32)])])
 .ret)
 .skip))
 (.seq (.seq (.ops [mT 34 8,nT 35 34])
 (.cond (.t 35)
 (.seq (.ops [mT 36 0,mT 37 1,mT 38 2,o 39 (.icall (.f F.slices_breakPatternsOrdered_int) [(.t 36),(.t 37),(.t 38)])])
 (.ops [mT 40 3,bN 41 .sub (.t 40) (cI 1),mT 3 41]))
 .skip))
 (.seq (.ops [mT 43 0,mT 44 1,mT 45 2,cL 46 F.slices_choosePivotOrdered_int [(.t 43),(.t 44),(.t 45)],mT 42 46,o 47 (.ext 0 (.t 42)),o 48 (.ext 1 (.t 42)),mT 11 47,
 mT 12 48])
 (.seq (.seq (.ops [mT 49 12,bN 50 .eql (.t 49) (cI 2)])
 (.cond (.t 50)
 (.seq (.ops [mT 51 0,mT 52 1,mT 53 2,o 54 (.icall (.f F.slices_reverseRangeOrdered_int) [(.t 51),(.t 52),(.t 53)])])
 (.seq (.ops [mT 55 2,bN 56 .sub (.t 55) (cI 1),mT 57 11,mT 58 1,bN 59 .sub (.t 57) (.t 58),bN 60 .sub (.t 56) (.t 59),mT 11 60])
 (.ops [mC 12 (.int .i64 1)])))
 .skip))
 (.seq (.seq (.ops [mT 61 8,mT 62 61,gM 63 62 true 9,pA 64 62 63,mT 65 64,gM 66 65 true 12,gB 67 65 true .eql (.t 66) (cI 1),pA 68 65 67])
 (.cond (.t 68)
 (.seq (.ops [mT 69 0,mT 70 1,mT 71 2,o 72 (.icall (.f F.slices_partialInsertionSortOrdered_int) [(.t 69),(.t 70),(.t 71)])])
 (.cond (.t 72)
 .ret
 .skip))
 .skip))
 (.seq (.seq (.draw [mT 73 1,bN 74 .gtr (.t 73) (cI 0),mT 75 74,gM 76 75 true 0,gM 77 75 true 1,gB 78 75 true .sub (.t 77) (cI 1),og 79 75 true (.ia 1 (.t 76) (.t 78)),
 g1 80 75 true 79,gM 81 75 true 0,gM 82 75 true 11,og 83 75 true (.ia 1 (.t 81) (.t 82)),g1 84 75 true 83,gL 85 75 true F.cmp_Less_int [(.t 80),(.t 84)],
 og 86 75 true (.un .not (.t 85)),pA 87 75 86]
 [])
 (.cond (.t 87)
 (.seq (.ops [mT 88 0,mT 89 1,mT 90 2,mT 91 11,o 92 (.icall (.f F.slices_partitionEqualOrdered_int) [(.t 88),(.t 89),(.t 90),(.t 91)]),mT 13 92])
 (.seq (.ops [mT 93 13,mT 1 93])
 (.exit 1)))
 .skip))
 (.seq (.ops [mT 95 0,mT 96 1,mT 97 2,mT 98 11,o 99 (.icall (.f F.slices_partitionOrdered_int) [(.t 95),(.t 96),(.t 97),(.t 98)]),mT 94 99,o 100 (.ext 0 (.t 94)),
 o 101 (.ext 1 (.t 94)),mT 14 100,mT 15 101])
 (.seq (.ops [mT 102 15,mT 9 102])
 (.seq (.ops [mT 103 14,mT 104 1,bN 105 .sub (.t 103) (.t 104),mT 106 2,mT 107 14,bN 108 .sub (.t 106) (.t 107),mT 16 105,mT 17 108])
 (.seq (.ops [mT 109 10,bN 110 .quo (.t 109) (cI 8),mT 18 110])
 (.seq (.ops [mT 111 16,mT 112 17,bN 113 .lss (.t 111) (.t 112)])
 (.cond (.t 113)
 (.seq (.ops [mT 114 16,mT 115 18,bN 116 .geq (.t 114) (.t 115),mT 8 116])
 (.seq (.ops [mT 117 0,mT 118 1,mT 119 14,mT 120 3,o 121 (.icall (.f F.slices_pdqsortOrdered_int) [(.t 117),(.t 118),(.t 119),(.t 120)])])
 (.ops [mT 122 14,bN 123 .add (.t 122) (cI 1),mT 1 123])))
 (.seq (.ops [mT 124 17,mT 125 18,bN 126 .geq (.t 124) (.t 125),mT 8 126])
 (.seq (.ops [mT 127 0,mT 128 14,bN 129 .add (.t 128) (cI 1),mT 130 2,mT 131 3,o 132 (.icall (.f F.slices_pdqsortOrdered_int) [(.t 127),(.t 129),(.t 130),(.t 131)])])
 (.ops [mT 133 14,mT 2 133])))))))))))))))))))))) }
def C.math_bits_Len : LFunc := { np := 1,res := [.tmp 2],keep := false,body :=
 (.seq (.ops [mC 2 (.int .i64 0)])
 (.seq (.cond (cB false)
 (.seq (.ops [mT 3 0,o 4 (.wrap .u32 (.t 3)),cL 5 F.math_bits_Len32 [(.t 4)],mT 2 5])
 .ret)
 .skip)
 (.seq (.ops [mT 6 0,cL 7 F.math_bits_Len64 [(.t 6)],mT 2 7])
 .ret))) }
def C.R16_logged : LFunc := { np := 1,res := [.cell 2 true 5,.tmp 3],keep := false,body :=
 (.seq (.ops [bX 1 2 0,o 2 (.alloc [(.cl []),(.cl []),(.cl []),(.int .i64 0),(.int .i64 0)]),mC 3 (.bool false)])
 (.seq (.ops [lT 10 2 1,cL 11 F.R16_settled [(.t 10)],o 12 (.build [(.cl []),(.cl []),(.cl []),(.int .i64 0),(.int .i64 0)] [(0,1,(.t 11)),(4,1,(cI 1))]),
 o 4 (.alloc [(.cl []),(.cl []),(.cl []),(.int .i64 0),(.int .i64 0)]),sT 5 4 12])
 (.seq (.seq (.ops [mC 5 (.int .i64 0)])
 (.block 0 (.loop (.seq (.seq (.ops [mT 13 5,fA 14 0 4,l1 15 14,lN 16 15,bN 17 .lss (.t 13) (.t 16)])
 (.cond (.t 17)
 .skip
 (.exit 0)))
 (.seq (.block 1 (.seq (.ops [fA 21 0 4,l1 22 21,mT 23 5,iA 24 1 22 23,l1 25 24,cL 26 F.R16_Record [(.t 25)],mT 20 26,o 27 (.ext 0 (.t 20)),o 28 (.ext 1 (.t 20)),
 o 6 (.alloc [(.int .i64 0),(.int .i64 0),(.int .i64 0),(.int .i64 0),(.bool false),(.str ⟨#[]⟩)]),sT 6 6 27,mT 7 28])
 (.seq (.seq (.ops [mT 29 7,bN 30 .eql (.t 29) (cI 0),mT 31 30,gT 32 31 true 5 4,gF 33 31 true 0 6,g1 34 31 true 33,gL 35 31 true F.R16_log_find [(.t 32),(.t 34)],
 gB 36 31 true .geq (.t 35) (cI 0),pA 37 31 36])
 (.cond (.t 37)
 (.seq (.ops [o 38 (.build [(.cl []),(.cl []),(.cl []),(.int .i64 0),(.int .i64 0)] []),sT 5 2 38,mC 3 (.bool false)])
 .ret)
 .skip))
 (.seq (.ops [fA 39 1 4,l1 40 39,lT 41 6 6,o 42 (.bslice 1 6 [(.int .i64 0),(.int .i64 0),(.int .i64 0),(.int .i64 0),(.bool false),(.str ⟨#[]⟩)] [(0,(.t 41))]),
 o 43 (.append 6 (.t 40) (.t 42)),fA 44 1 4,sT 1 44 43])
 (.seq (.ops [fA 45 2 4,l1 46 45,mT 47 7,bN 48 .eql (.t 47) (cI 0),o 49 (.bslice 1 1 [(.bool false)] [(0,(.t 48))]),o 50 (.append 1 (.t 46) (.t 49)),fA 51 2 4,
 sT 1 51 50])
 (.ops [fA 52 4 4,l1 53 52,fA 54 0 6,l1 55 54,bN 56 .add (.t 55) (cI 1),o 57 (.minmax true [(.t 53),(.t 56)]),fA 58 4 4,sT 1 58 57]))))))
 (.ops [mT 18 5,bN 19 .add (.t 18) (cI 1),mT 5 19]))))))
 (.seq (.seq (.ops [mC 8 (.int .i64 0)])
 (.block 2 (.loop (.seq (.seq (.ops [mT 59 8,fA 60 1 4,l1 61 60,lN 62 61,bN 63 .lss (.t 59) (.t 62)])
 (.cond (.t 63)
 .skip
 (.exit 2)))
 (.seq (.block 3 (.seq (.ops [fA 66 1 4,l1 67 66,mT 68 8,iA 69 6 67 68,lT 70 6 69,
 o 9 (.alloc [(.int .i64 0),(.int .i64 0),(.int .i64 0),(.int .i64 0),(.bool false),(.str ⟨#[]⟩)]),sT 6 9 70])
 (.seq (.ops [fA 71 2 4,l1 72 71,mT 73 8,iA 74 1 72 73,l1 75 74,mT 76 75,gF 77 76 true 1 9,g1 78 76 true 77,gF 79 76 true 2 9,g1 80 76 true 79,
 gB 81 76 true .sub (.t 80) (cI 1),gB 82 76 true .eql (.t 78) (.t 81),pA 83 76 82,mT 84 83,gF 85 84 true 0 9,g1 86 84 true 85,gF 87 84 true 3 4,g1 88 84 true 87,
 gB 89 84 true .gtr (.t 86) (.t 88),pA 90 84 89,mT 91 90,gT 92 91 true 5 4,gT 93 91 true 6 9,gL 94 91 true F.R16_log_complete [(.t 92),(.t 93)],pA 95 91 94])
 (.cond (.t 95)
 (.ops [fA 96 0 9,l1 97 96,fA 98 3 4,sT 1 98 97])
 .skip))))
 (.ops [mT 64 8,bN 65 .add (.t 64) (cI 1),mT 8 65]))))))
 (.seq (.ops [lT 99 5 4,sT 5 2 99,mC 3 (.bool true)])
 .ret))))) }
def C.R16_log_decides : LFunc := { np := 2,res := [.tmp 4],keep := false,body :=
 (.seq (.ops [bX 2 5 0,mC 4 (.int .i64 0)])
 (.seq (.ops [mC 5 (.int .i64 (-1))])
 (.seq (.seq (.ops [mC 6 (.int .i64 0)])
 (.block 0 (.loop (.seq (.seq (.ops [mT 7 6,fA 8 1 2,l1 9 8,lN 10 9,bN 11 .lss (.t 7) (.t 10)])
 (.cond (.t 11)
 .skip
 (.exit 0)))
 (.seq (.block 1 (.seq (.draw [fA 14 2 2,l1 15 14,mT 16 6,iA 17 1 15 16,l1 18 17,mT 19 18,gF 20 19 true 1 2,g1 21 19 true 20,gM 22 19 true 6,
 og 23 19 true (.ia 6 (.t 21) (.t 22)),gF 24 19 true 3 23,g1 25 19 true 24,gM 26 19 true 1,gB 27 19 true .eql (.t 25) (.t 26),pA 28 19 27,mT 29 28,gF 30 29 true 1 2,
 g1 31 29 true 30,gM 32 29 true 6,og 33 29 true (.ia 6 (.t 31) (.t 32)),gF 34 29 true 0 33,g1 35 29 true 34,gF 36 29 true 3 2,g1 37 29 true 36,
 gB 38 29 true .leq (.t 35) (.t 37),pA 39 29 38,mT 40 39,gM 41 40 true 5,gB 42 40 true .lss (.t 41) (cI 0),gM 43 40 true 42,gF 44 43 false 1 2,g1 45 43 false 44,
 gM 46 43 false 6,og 47 43 false (.ia 6 (.t 45) (.t 46)),gF 48 43 false 0 47,g1 49 43 false 48,gF 50 43 false 1 2,g1 51 43 false 50,gM 52 43 false 5,
 og 53 43 false (.ia 6 (.t 51) (.t 52)),gF 54 43 false 0 53,g1 55 43 false 54,gB 56 43 false .gtr (.t 49) (.t 55),og 57 40 true (.pick (.t 43) (cB true) (.t 56)),
 pA 58 40 57]
 [])
 (.cond (.t 58)
 (.ops [mT 59 6,mT 5 59])
 .skip)))
 (.ops [mT 12 6,bN 13 .add (.t 12) (cI 1),mT 6 13]))))))
 (.seq (.ops [mT 60 5,mT 4 60])
 .ret)))) }
def C.R16_whole : LFunc := { np := 1,res := [.tmp 2],keep := false,body :=
 (.seq (.ops [mC 2 (.cl [])])
 (.seq (.ops [mC 3 (.cl [])])
 (.seq (.seq (.ops [mC 4 (.int .i64 0)])
 (.block 0 (.loop (.seq (.seq (.ops [mT 5 4,mT 6 0,bN 7 .lss (.t 5) (.t 6)])
 (.cond (.t 7)
 .skip
 (.exit 0)))
 (.seq (.block 1 (.ops [mT 10 3,o 11 (.bslice 1 1 [(.int .i64 0)] [(0,(cI 24))]),o 12 (.append 1 (.t 10) (.t 11)),mT 3 12]))
 (.ops [mT 8 4,bN 9 .add (.t 8) (cI 1),mT 4 9]))))))
 (.seq (.ops [mT 13 3,mT 2 13])
 .ret)))) }
def C.disk_device_crash : LFunc := { np := 3,res := [],keep := false,body :=
 (.seq (.ops [mT 10 1])
 (.block 0 (.seq (.ops [o 11 (.assert 134 (.agg [(.int .i64 0),(.int .u8 0),(.int .u8 0),(.int .u8 0),(.int .u8 0),(.int .u8 0),(.int .u8 0),(.int .u8 0),(.int .u8 0),(.int .u8 0),(.int .u8 0),(.int .u8 0),(.int .u8 0),(.int .u8 0),(.int .u8 0),(.int .u8 0),(.int .u8 0),(.int .u8 0),(.int .u8 0),(.int .u8 0),(.int .u8 0),(.int .u8 0),(.int .u8 0),(.int .u8 0),(.int .u8 0)]) true (.t 10)),
 o 12 (.ext 1 (.t 11)),o 13 (.ext 0 (.t 11))])
 (.cond (.t 12)
 (.seq (.ops [o 6 (.alloc ([(.int .i64 0)] ++ List.replicate 24 (.int .u8 0))),sT 25 6 13])
 (.draw [mT 14 0,fA 15 0 6,l1 16 15,nK 17 14,fA 18 0 17,o 19 (.iaa 48 24 (.t 18) (.t 16)),o 20 (.sla 24 1 false (.t 19) none none),fA 21 1 6,mT 22 2,
 o 23 (.sla 24 1 false (.t 21) none (some (.t 22))),o 24 (.copy 1 (.t 20) (.t 23))]
 []))
 (.seq (.ops [o 25 (.assert 113 (.agg [(.int .i64 0)]) true (.t 10)),o 26 (.ext 1 (.t 25)),o 27 (.ext 0 (.t 25))])
 (.cond (.t 26)
 (.seq (.ops [o 7 (.alloc [(.int .i64 0)]),sT 1 7 27])
 (.seq (.ops [mC 28 (.int .i64 0)])
 (.block 1 (.loop (.seq (.ops [bN 29 .lss (.t 28) (cI 8)])
 (.seq (.cond (.t 29)
 .skip
 (.exit 1))
 (.seq (.block 2 (.seq (.ops [mT 30 28,mT 8 30])
 (.seq (.ops [mT 31 2,mT 32 8,bN 33 .add (.t 32) (cI 1),bN 34 .mul (.t 31) (.t 33),bN 35 .rem (.t 34) (cI 25),mT 9 35])
 (.seq (.seq (.ops [mT 36 2,bN 37 .eql (.t 36) (cI 24)])
 (.cond (.t 37)
 (.ops [mT 38 2,mT 9 38])
 .skip))
 (.draw [mT 39 0,fA 40 0 7,l1 41 40,bN 42 .mul (.t 41) (cI 8),mT 43 8,bN 44 .add (.t 42) (.t 43),nK 45 39,fA 46 0 45,o 47 (.iaa 48 24 (.t 46) (.t 44)),mT 48 9,
 o 49 (.sla 24 1 false (.t 47) none (some (.t 48))),on (.clr (.int .u8 0) (.t 49))]
 [])))))
 (.ops [bN 50 .add (.t 28) (cI 1),mT 28 50]))))))))
 .skip)))))) }
def C.R16_begun : LFunc := { np := 3,res := [.tmp 6],keep := false,body :=
 (.seq (.ops [mC 6 (.str ⟨#[]⟩)])
 (.seq (.draw [mT 7 1,mT 8 2,o 9 (.slice true 1 (.t 7) none (some (.t 8)) none),mT 10 0,mT 11 2,o 12 (.slice true 1 (.t 10) (some (.t 11)) none none),
 o 13 (.bin .add .str (.t 9) (.t 12)),mT 6 13]
 [])
 .ret)) }
def C.disk_placed_segment : LFunc := { np := 1,res := [.tmp 2],keep := false,body :=
 (.seq (.ops [bX 1 7 0,mC 2 (.int .i64 0)])
 (.seq (.ops [fA 3 6 1,l1 4 3,bN 5 .quo (.t 4) (cI 8),mT 2 5])
 .ret)) }
def C.disk_journal_another : LFunc := { np := 2,res := [.cell 4 false 1],keep := false,body :=
 (.seq (.ops [bX 3 7 1,o 4 (.alloc [(.bool false)])])
 (.seq (.seq (.ops [mT 6 0,o 7 (.icall (.f F.disk_journal_records) [(.t 6)])])
 (.block 0 (.rangeF (.t 7) [8]
 (.ops [o 5 (.alloc [(.int .i64 0),(.int .i64 0),(.int .i64 0),(.int .i64 0),(.bool false),(.str ⟨#[]⟩),(.int .i64 0)]),sT 7 5 8])
 (.block 1 (.seq (.ops [fA 9 0 5,fA 10 3 9,l1 11 10,fA 12 0 3,fA 13 3 12,l1 14 13,bN 15 .eql (.t 11) (.t 14),mT 16 15,gF 17 16 true 0 5,gF 18 16 true 0 17,
 g1 19 16 true 18,gF 20 16 true 0 3,gF 21 16 true 0 20,g1 22 16 true 21,gB 23 16 true .neq (.t 19) (.t 22),pA 24 16 23])
 (.cond (.t 24)
 (.seq (.ops [on (.store 1 (.t 4) (cB true))])
 .ret)
 .skip))))))
 (.seq (.ops [on (.store 1 (.t 4) (cB false))])
 .ret))) }
def C.slices_IndexFunc_s_disk_act_disk_act : LFunc := { np := 2,res := [.tmp 4],keep := false,body :=
 (.seq (.ops [mC 4 (.int .i64 0)])
 (.seq (.seq (.ops [mT 6 0,lN 7 6,mC 8 (.int .i64 0)])
 (.block 0 (.loop (.seq (.ops [bN 9 .lss (.t 8) (.t 7)])
 (.seq (.cond (.t 9)
 .skip
 (.exit 0))
 (.seq (.block 1 (.seq (.ops [mT 10 8,mT 5 10])
 (.seq (.ops [mT 11 1,mT 12 0,mT 13 5,iA 14 1 12 13,l1 15 14,o 16 (.call (.t 11) [(.t 15)])])
 (.cond (.t 16)
 (.seq (.ops [mT 17 5,mT 4 17])
 .ret)
 .skip))))
 (.ops [bN 18 .add (.t 8) (cI 1),mT 8 18])))))))
 (.seq (.ops [mC 4 (.int .i64 (-1))])
 .ret))) }
def C.slices_insertionSortOrdered_int : LFunc := { np := 3,res := [],keep := false,body :=
 (.seq (.ops [mT 8 1,bN 9 .add (.t 8) (cI 1),mT 6 9])
 (.block 0 (.loop (.seq (.seq (.ops [mT 10 6,mT 11 2,bN 12 .lss (.t 10) (.t 11)])
 (.cond (.t 12)
 .skip
 (.exit 0)))
 (.seq (.block 1 (.seq (.ops [mT 15 6,mT 7 15])
 (.block 2 (.loop (.seq (.seq (.draw [mT 16 7,mT 17 1,bN 18 .gtr (.t 16) (.t 17),mT 19 18,gM 20 19 true 0,gM 21 19 true 7,og 22 19 true (.ia 1 (.t 20) (.t 21)),
 g1 23 19 true 22,gM 24 19 true 0,gM 25 19 true 7,gB 26 19 true .sub (.t 25) (cI 1),og 27 19 true (.ia 1 (.t 24) (.t 26)),g1 28 19 true 27,
 gL 29 19 true F.cmp_Less_int [(.t 23),(.t 28)],pA 30 19 29]
 [])
 (.cond (.t 30)
 .skip
 (.exit 2)))
 (.seq (.block 3 (.draw [mT 33 0,mT 34 7,mT 35 0,mT 36 7,bN 37 .sub (.t 36) (cI 1),mT 38 0,mT 39 7,bN 40 .sub (.t 39) (cI 1),iA 41 1 38 40,l1 42 41,mT 43 0,mT 44 7,
 iA 45 1 43 44,l1 46 45,iA 47 1 33 34,sT 1 47 42,iA 48 1 35 37,sT 1 48 46]
 []))
 (.ops [mT 31 7,bN 32 .sub (.t 31) (cI 1),mT 7 32])))))))
 (.ops [mT 13 6,bN 14 .add (.t 13) (cI 1),mT 6 14])))))) }
def C.slices_heapSortOrdered_int : LFunc := { np := 3,res := [],keep := false,body :=
 (.seq (.ops [mT 11 1,mT 6 11])
 (.seq (.ops [mC 7 (.int .i64 0)])
 (.seq (.ops [mT 12 2,mT 13 1,bN 14 .sub (.t 12) (.t 13),mT 8 14])
 (.seq (.seq (.ops [mT 15 8,bN 16 .sub (.t 15) (cI 1),bN 17 .quo (.t 16) (cI 2),mT 9 17])
 (.block 0 (.loop (.seq (.seq (.ops [mT 18 9,bN 19 .geq (.t 18) (cI 0)])
 (.cond (.t 19)
 .skip
 (.exit 0)))
 (.seq (.block 1 (.ops [mT 22 0,mT 23 9,mT 24 8,mT 25 6,o 26 (.icall (.f F.slices_siftDownOrdered_int) [(.t 22),(.t 23),(.t 24),(.t 25)])]))
 (.ops [mT 20 9,bN 21 .sub (.t 20) (cI 1),mT 9 21]))))))
 (.seq (.ops [mT 27 8,bN 28 .sub (.t 27) (cI 1),mT 10 28])
 (.block 2 (.loop (.seq (.seq (.ops [mT 29 10,bN 30 .geq (.t 29) (cI 0)])
 (.cond (.t 30)
 .skip
 (.exit 2)))
 (.seq (.block 3 (.seq (.draw [mT 33 0,mT 34 6,mT 35 0,mT 36 6,mT 37 10,bN 38 .add (.t 36) (.t 37),mT 39 0,mT 40 6,mT 41 10,bN 42 .add (.t 40) (.t 41),iA 43 1 39 42,
 l1 44 43,mT 45 0,mT 46 6,iA 47 1 45 46,l1 48 47,iA 49 1 33 34,sT 1 49 44,iA 50 1 35 38,sT 1 50 48]
 [])
 (.ops [mT 51 0,mT 52 7,mT 53 10,mT 54 6,o 55 (.icall (.f F.slices_siftDownOrdered_int) [(.t 51),(.t 52),(.t 53),(.t 54)])])))
 (.ops [mT 31 10,bN 32 .sub (.t 31) (cI 1),mT 10 32])))))))))) }
def C.slices_breakPatternsOrdered_int : LFunc := { np := 3,res := [],keep := false,body :=
 (.seq (.ops [mT 11 2,mT 12 1,bN 13 .sub (.t 11) (.t 12),mT 6 13])
 (.seq (.ops [mT 14 6,bN 15 .geq (.t 14) (cI 8)])
 (.cond (.t 15)
 (.seq (.ops [mT 16 6,o 17 (.wrap .u64 (.t 16)),o 7 (.alloc [(.int .u64 0)]),sT 1 7 17])
 (.seq (.ops [mT 18 6,cL 19 F.slices_nextPowerOfTwo [(.t 18)],mT 8 19])
 (.seq (.ops [mT 20 1,mT 21 6,bN 22 .quo (.t 21) (cI 4),bN 23 .mul (.t 22) (cI 2),bN 24 .add (.t 20) (.t 23),bN 25 .sub (.t 24) (cI 1),mT 9 25])
 (.block 0 (.loop (.seq (.seq (.ops [mT 26 9,mT 27 1,mT 28 6,bN 29 .quo (.t 28) (cI 4),bN 30 .mul (.t 29) (cI 2),bN 31 .add (.t 27) (.t 30),bN 32 .add (.t 31) (cI 1),
 bN 33 .leq (.t 26) (.t 32)])
 (.cond (.t 33)
 .skip
 (.exit 0)))
 (.seq (.block 1 (.seq (.ops [cL 36 F.slices_xorshift_Next [(.t 7)],mT 37 8,bN 38 .sub (.t 37) (.c (.int .u64 1)),bN 39 .and (.t 36) (.t 38),o 40 (.wrap .i64 (.t 39)),
 mT 10 40])
 (.seq (.seq (.ops [mT 41 10,mT 42 6,bN 43 .geq (.t 41) (.t 42)])
 (.cond (.t 43)
 (.ops [mT 44 10,mT 45 6,bN 46 .sub (.t 44) (.t 45),mT 10 46])
 .skip))
 (.draw [mT 47 0,mT 48 9,mT 49 0,mT 50 1,mT 51 10,bN 52 .add (.t 50) (.t 51),mT 53 0,mT 54 1,mT 55 10,bN 56 .add (.t 54) (.t 55),iA 57 1 53 56,l1 58 57,mT 59 0,mT 60 9,
 iA 61 1 59 60,l1 62 61,iA 63 1 47 48,sT 1 63 58,iA 64 1 49 52,sT 1 64 62]
 []))))
 (.ops [mT 34 9,bN 35 .add (.t 34) (cI 1),mT 9 35]))))))))
 .skip))) }
def C.slices_choosePivotOrdered_int : LFunc := { np := 3,res := [.tmp 6,.tmp 7],keep := false,body :=
 (.seq (.ops [mC 6 (.int .i64 0),mC 7 (.int .i64 0)])
 (.seq (.ops [mT 13 2,mT 14 1,bN 15 .sub (.t 13) (.t 14),mT 8 15])
 (.seq (.ops [o 9 (.alloc [(.int .i64 0)])])
 (.seq (.ops [mT 16 1,mT 17 8,bN 18 .quo (.t 17) (cI 4),bN 19 .mul (.t 18) (cI 1),bN 20 .add (.t 16) (.t 19),mT 10 20])
 (.seq (.ops [mT 21 1,mT 22 8,bN 23 .quo (.t 22) (cI 4),bN 24 .mul (.t 23) (cI 2),bN 25 .add (.t 21) (.t 24),mT 11 25])
 (.seq (.ops [mT 26 1,mT 27 8,bN 28 .quo (.t 27) (cI 4),bN 29 .mul (.t 28) (cI 3),bN 30 .add (.t 26) (.t 29),mT 12 30])
 (.seq (.seq (.ops [mT 31 8,bN 32 .geq (.t 31) (cI 8)])
 (.cond (.t 32)
 (.seq (.seq (.ops [mT 33 8,bN 34 .geq (.t 33) (cI 50)])
 (.cond (.t 34)
 (.seq (.ops [mT 35 0,mT 36 10,cL 37 F.slices_medianAdjacentOrdered_int [(.t 35),(.t 36),(.t 9)],mT 10 37])
 (.seq (.ops [mT 38 0,mT 39 11,cL 40 F.slices_medianAdjacentOrdered_int [(.t 38),(.t 39),(.t 9)],mT 11 40])
 (.ops [mT 41 0,mT 42 12,cL 43 F.slices_medianAdjacentOrdered_int [(.t 41),(.t 42),(.t 9)],mT 12 43])))
 .skip))
 (.ops [mT 44 0,mT 45 10,mT 46 11,mT 47 12,cL 48 F.slices_medianOrdered_int [(.t 44),(.t 45),(.t 46),(.t 47),(.t 9)],mT 11 48]))
 .skip))
 (.seq (.ops [l1 49 9])
 (.block 0 (.seq (.ops [bN 52 .eql (.t 49) (cI 0),mT 51 52])
 (.cond (.t 51)
 (.seq (.ops [mT 53 11,mT 6 53,mC 7 (.int .i64 1)])
 .ret)
 (.seq (.ops [bN 55 .eql (.t 49) (cI 12),mT 54 55])
 (.cond (.t 54)
 (.seq (.ops [mT 56 11,mT 6 56,mC 7 (.int .i64 2)])
 .ret)
 (.seq (.ops [mT 50 11,mT 6 50,mC 7 (.int .i64 0)])
 .ret)))))))))))))) }
def C.slices_reverseRangeOrdered_int : LFunc := { np := 3,res := [],keep := false,body :=
 (.seq (.ops [mT 8 1,mT 6 8])
 (.seq (.ops [mT 9 2,bN 10 .sub (.t 9) (cI 1),mT 7 10])
 (.block 0 (.loop (.seq (.seq (.ops [mT 11 6,mT 12 7,bN 13 .lss (.t 11) (.t 12)])
 (.cond (.t 13)
 .skip
 (.exit 0)))
 (.block 1 (.seq (.draw [mT 14 0,mT 15 6,mT 16 0,mT 17 7,mT 18 0,mT 19 7,iA 20 1 18 19,l1 21 20,mT 22 0,mT 23 6,iA 24 1 22 23,l1 25 24,iA 26 1 14 15,sT 1 26 21,
 iA 27 1 16 17,sT 1 27 25]
 [])
 (.seq (.ops [mT 28 6,bN 29 .add (.t 28) (cI 1),mT 6 29])
 (.ops [mT 30 7,bN 31 .sub (.t 30) (cI 1),mT 7 31]))))))))) }
def C.slices_partialInsertionSortOrdered_int : LFunc := { np := 3,res := [.tmp 6],keep := false,body :=
 (.seq (.ops [mC 6 (.bool false)])
 (.seq (.ops [mT 11 1,bN 12 .add (.t 11) (cI 1),mT 7 12])
 (.seq (.seq (.ops [mC 8 (.int .i64 0)])
 (.block 0 (.loop (.seq (.seq (.ops [mT 13 8,bN 14 .lss (.t 13) (cI 5)])
 (.cond (.t 14)
 .skip
 (.exit 0)))
 (.seq (.block 1 (.seq (.block 2 (.loop (.seq (.seq (.draw [mT 17 7,mT 18 2,bN 19 .lss (.t 17) (.t 18),mT 20 19,gM 21 20 true 0,gM 22 20 true 7,
 og 23 20 true (.ia 1 (.t 21) (.t 22)),g1 24 20 true 23,gM 25 20 true 0,gM 26 20 true 7,gB 27 20 true .sub (.t 26) (cI 1),og 28 20 true (.ia 1 (.t 25) (.t 27)),
 g1 29 20 true 28,gL 30 20 true F.cmp_Less_int [(.t 24),(.t 29)],og 31 20 true (.un .not (.t 30)),pA 32 20 31]
 [])
 (.cond (.t 32)
 .skip
 (.exit 2)))
 (.block 3 (.ops [mT 33 7,bN 34 .add (.t 33) (cI 1),mT 7 34])))))
 (.seq (.seq (.ops [mT 35 7,mT 36 2,bN 37 .eql (.t 35) (.t 36)])
 (.cond (.t 37)
 (.seq (.ops [mC 6 (.bool true)])
 .ret)
 .skip))
 (.seq (.seq (.ops [mT 38 2,mT 39 1,bN 40 .sub (.t 38) (.t 39),bN 41 .lss (.t 40) (cI 50)])
 (.cond (.t 41)
 (.seq (.ops [mC 6 (.bool false)])
 .ret)
 .skip))
 (.seq (.draw [mT 42 0,mT 43 7,mT 44 0,mT 45 7,bN 46 .sub (.t 45) (cI 1),mT 47 0,mT 48 7,bN 49 .sub (.t 48) (cI 1),iA 50 1 47 49,l1 51 50,mT 52 0,mT 53 7,iA 54 1 52 53,
 l1 55 54,iA 56 1 42 43,sT 1 56 51,iA 57 1 44 46,sT 1 57 55]
 [])
 (.seq (.seq (.ops [mT 58 7,mT 59 1,bN 60 .sub (.t 58) (.t 59),bN 61 .geq (.t 60) (cI 2)])
 (.cond (.t 61)
 (.seq (.ops [mT 62 7,bN 63 .sub (.t 62) (cI 1),mT 9 63])
 (.block 4 (.loop (.seq (.seq (.ops [mT 64 9,bN 65 .geq (.t 64) (cI 1)])
 (.cond (.t 65)
 .skip
 (.exit 4)))
 (.seq (.block 5 (.seq (.seq (.draw [mT 68 0,mT 69 9,iA 70 1 68 69,l1 71 70,mT 72 0,mT 73 9,bN 74 .sub (.t 73) (cI 1),iA 75 1 72 74,l1 76 75,
 cL 77 F.cmp_Less_int [(.t 71),(.t 76)],nT 78 77]
 [])
 (.cond (.t 78)
 (.exit 4)
 .skip))
 (.draw [mT 79 0,mT 80 9,mT 81 0,mT 82 9,bN 83 .sub (.t 82) (cI 1),mT 84 0,mT 85 9,bN 86 .sub (.t 85) (cI 1),iA 87 1 84 86,l1 88 87,mT 89 0,mT 90 9,iA 91 1 89 90,
 l1 92 91,iA 93 1 79 80,sT 1 93 88,iA 94 1 81 83,sT 1 94 92]
 [])))
 (.ops [mT 66 9,bN 67 .sub (.t 66) (cI 1),mT 9 67]))))))
 .skip))
 (.seq (.ops [mT 95 2,mT 96 7,bN 97 .sub (.t 95) (.t 96),bN 98 .geq (.t 97) (cI 2)])
 (.cond (.t 98)
 (.seq (.ops [mT 99 7,bN 100 .add (.t 99) (cI 1),mT 10 100])
 (.block 6 (.loop (.seq (.seq (.ops [mT 101 10,mT 102 2,bN 103 .lss (.t 101) (.t 102)])
 (.cond (.t 103)
 .skip
 (.exit 6)))
 (.seq (.block 7 (.seq (.seq (.draw [mT 106 0,mT 107 10,iA 108 1 106 107,l1 109 108,mT 110 0,mT 111 10,bN 112 .sub (.t 111) (cI 1),iA 113 1 110 112,l1 114 113,
 cL 115 F.cmp_Less_int [(.t 109),(.t 114)],nT 116 115]
 [])
 (.cond (.t 116)
 (.exit 6)
 .skip))
 (.draw [mT 117 0,mT 118 10,mT 119 0,mT 120 10,bN 121 .sub (.t 120) (cI 1),mT 122 0,mT 123 10,bN 124 .sub (.t 123) (cI 1),iA 125 1 122 124,l1 126 125,mT 127 0,
 mT 128 10,iA 129 1 127 128,l1 130 129,iA 131 1 117 118,sT 1 131 126,iA 132 1 119 121,sT 1 132 130]
 [])))
 (.ops [mT 104 10,bN 105 .add (.t 104) (cI 1),mT 10 105]))))))
 .skip))))))))
 (.ops [mT 15 8,bN 16 .add (.t 15) (cI 1),mT 8 16]))))))
 (.seq (.ops [mC 6 (.bool false)])
 .ret)))) }
def C.cmp_Less_int : LFunc := { np := 2,res := [.tmp 4],keep := false,body :=
 (.seq (.ops [mC 4 (.bool false)])
 (.seq (.ops [mT 5 0,cL 6 F.cmp_isNaN_int [(.t 5)],mT 7 6,gM 8 7 true 1,gL 9 7 true F.cmp_isNaN_int [(.t 8)],og 10 7 true (.un .not (.t 9)),pA 11 7 10,mT 12 11,
 gM 13 12 false 0,gM 14 12 false 1,gB 15 12 false .lss (.t 13) (.t 14),pO 16 12 15,mT 4 16])
 .ret)) }
def C.slices_partitionEqualOrdered_int : LFunc := { np := 4,res := [.tmp 8],keep := false,body :=
 (.seq (.ops [mC 8 (.int .i64 0)])
 (.seq (.draw [mT 11 0,mT 12 1,mT 13 0,mT 14 3,mT 15 0,mT 16 3,iA 17 1 15 16,l1 18 17,mT 19 0,mT 20 1,iA 21 1 19 20,l1 22 21,iA 23 1 11 12,sT 1 23 18,iA 24 1 13 14,
 sT 1 24 22]
 [])
 (.seq (.ops [mT 25 1,bN 26 .add (.t 25) (cI 1),mT 27 2,bN 28 .sub (.t 27) (cI 1),mT 9 26,mT 10 28])
 (.seq (.block 0 (.loop (.block 1 (.seq (.block 2 (.loop (.seq (.seq (.draw [mT 29 9,mT 30 10,bN 31 .leq (.t 29) (.t 30),mT 32 31,gM 33 32 true 0,gM 34 32 true 1,
 og 35 32 true (.ia 1 (.t 33) (.t 34)),g1 36 32 true 35,gM 37 32 true 0,gM 38 32 true 9,og 39 32 true (.ia 1 (.t 37) (.t 38)),g1 40 32 true 39,
 gL 41 32 true F.cmp_Less_int [(.t 36),(.t 40)],og 42 32 true (.un .not (.t 41)),pA 43 32 42]
 [])
 (.cond (.t 43)
 .skip
 (.exit 2)))
 (.block 3 (.ops [mT 44 9,bN 45 .add (.t 44) (cI 1),mT 9 45])))))
 (.seq (.block 4 (.loop (.seq (.seq (.draw [mT 46 9,mT 47 10,bN 48 .leq (.t 46) (.t 47),mT 49 48,gM 50 49 true 0,gM 51 49 true 1,og 52 49 true (.ia 1 (.t 50) (.t 51)),
 g1 53 49 true 52,gM 54 49 true 0,gM 55 49 true 10,og 56 49 true (.ia 1 (.t 54) (.t 55)),g1 57 49 true 56,gL 58 49 true F.cmp_Less_int [(.t 53),(.t 57)],pA 59 49 58]
 [])
 (.cond (.t 59)
 .skip
 (.exit 4)))
 (.block 5 (.ops [mT 60 10,bN 61 .sub (.t 60) (cI 1),mT 10 61])))))
 (.seq (.seq (.ops [mT 62 9,mT 63 10,bN 64 .gtr (.t 62) (.t 63)])
 (.cond (.t 64)
 (.exit 0)
 .skip))
 (.seq (.draw [mT 65 0,mT 66 9,mT 67 0,mT 68 10,mT 69 0,mT 70 10,iA 71 1 69 70,l1 72 71,mT 73 0,mT 74 9,iA 75 1 73 74,l1 76 75,iA 77 1 65 66,sT 1 77 72,iA 78 1 67 68,
 sT 1 78 76]
 [])
 (.seq (.ops [mT 79 9,bN 80 .add (.t 79) (cI 1),mT 9 80])
 (.ops [mT 81 10,bN 82 .sub (.t 81) (cI 1),mT 10 82])))))))))
 (.seq (.ops [mT 83 9,mT 8 83])
 .ret))))) }
def C.slices_partitionOrdered_int : LFunc := { np := 4,res := [.tmp 8,.tmp 9],keep := false,body :=
 (.seq (.ops [mC 8 (.int .i64 0),mC 9 (.bool false)])
 (.seq (.draw [mT 12 0,mT 13 1,mT 14 0,mT 15 3,mT 16 0,mT 17 3,iA 18 1 16 17,l1 19 18,mT 20 0,mT 21 1,iA 22 1 20 21,l1 23 22,iA 24 1 12 13,sT 1 24 19,iA 25 1 14 15,
 sT 1 25 23]
 [])
 (.seq (.ops [mT 26 1,bN 27 .add (.t 26) (cI 1),mT 28 2,bN 29 .sub (.t 28) (cI 1),mT 10 27,mT 11 29])
 (.seq (.block 0 (.loop (.seq (.seq (.draw [mT 30 10,mT 31 11,bN 32 .leq (.t 30) (.t 31),mT 33 32,gM 34 33 true 0,gM 35 33 true 10,
 og 36 33 true (.ia 1 (.t 34) (.t 35)),g1 37 33 true 36,gM 38 33 true 0,gM 39 33 true 1,og 40 33 true (.ia 1 (.t 38) (.t 39)),g1 41 33 true 40,
 gL 42 33 true F.cmp_Less_int [(.t 37),(.t 41)],pA 43 33 42]
 [])
 (.cond (.t 43)
 .skip
 (.exit 0)))
 (.block 1 (.ops [mT 44 10,bN 45 .add (.t 44) (cI 1),mT 10 45])))))
 (.seq (.block 2 (.loop (.seq (.seq (.draw [mT 46 10,mT 47 11,bN 48 .leq (.t 46) (.t 47),mT 49 48,gM 50 49 true 0,gM 51 49 true 11,
 og 52 49 true (.ia 1 (.t 50) (.t 51)),g1 53 49 true 52,gM 54 49 true 0,gM 55 49 true 1,og 56 49 true (.ia 1 (.t 54) (.t 55)),g1 57 49 true 56,
 gL 58 49 true F.cmp_Less_int [(.t 53),(.t 57)],og 59 49 true (.un .not (.t 58)),pA 60 49 59]
 [])
 (.cond (.t 60)
 .skip
 (.exit 2)))
 (.block 3 (.ops [mT 61 11,bN 62 .sub (.t 61) (cI 1),mT 11 62])))))
 (.seq (.seq (.ops [mT 63 10,mT 64 11,bN 65 .gtr (.t 63) (.t 64)])
 (.cond (.t 65)
 (.seq (.draw [mT 66 0,mT 67 11,mT 68 0,mT 69 1,mT 70 0,mT 71 1,iA 72 1 70 71,l1 73 72,mT 74 0,mT 75 11,iA 76 1 74 75,l1 77 76,iA 78 1 66 67,sT 1 78 73,iA 79 1 68 69,
 sT 1 79 77]
 [])
 (.seq (.ops [mT 80 11,mT 8 80,mC 9 (.bool true)])
 .ret))
 .skip))
 (.seq (.draw [mT 81 0,mT 82 10,mT 83 0,mT 84 11,mT 85 0,mT 86 11,iA 87 1 85 86,l1 88 87,mT 89 0,mT 90 10,iA 91 1 89 90,l1 92 91,iA 93 1 81 82,sT 1 93 88,iA 94 1 83 84,
 sT 1 94 92]
 [])
 (.seq (.ops [mT 95 10,bN 96 .add (.t 95) (cI 1),mT 10 96])
 (.seq (.ops [mT 97 11,bN 98 .sub (.t 97) (cI 1),mT 11 98])
 (.seq (.block 4 (.loop (.block 5 (.seq (.block 6 (.loop (.seq (.seq (.draw [mT 99 10,mT 100 11,bN 101 .leq (.t 99) (.t 100),mT 102 101,gM 103 102 true 0,
 gM 104 102 true 10,og 105 102 true (.ia 1 (.t 103) (.t 104)),g1 106 102 true 105,gM 107 102 true 0,gM 108 102 true 1,og 109 102 true (.ia 1 (.t 107) (.t 108)),
 g1 110 102 true 109,gL 111 102 true F.cmp_Less_int [(.t 106),(.t 110)],pA 112 102 111]
 [])
 (.cond (.t 112)
 .skip
 (.exit 6)))
 (.block 7 (.ops [mT 113 10,bN 114 .add (.t 113) (cI 1),mT 10 114])))))
 (.seq (.block 8 (.loop (.seq (.seq (.draw [mT 115 10,mT 116 11,bN 117 .leq (.t 115) (.t 116),mT 118 117,gM 119 118 true 0,gM 120 118 true 11,
 og 121 118 true (.ia 1 (.t 119) (.t 120)),g1 122 118 true 121,gM 123 118 true 0,gM 124 118 true 1,og 125 118 true (.ia 1 (.t 123) (.t 124)),g1 126 118 true 125,
 gL 127 118 true F.cmp_Less_int [(.t 122),(.t 126)],og 128 118 true (.un .not (.t 127)),pA 129 118 128]
 [])
 (.cond (.t 129)
 .skip
 (.exit 8)))
 (.block 9 (.ops [mT 130 11,bN 131 .sub (.t 130) (cI 1),mT 11 131])))))
 (.seq (.seq (.ops [mT 132 10,mT 133 11,bN 134 .gtr (.t 132) (.t 133)])
 (.cond (.t 134)
 (.exit 4)
 .skip))
 (.seq (.draw [mT 135 0,mT 136 10,mT 137 0,mT 138 11,mT 139 0,mT 140 11,iA 141 1 139 140,l1 142 141,mT 143 0,mT 144 10,iA 145 1 143 144,l1 146 145,iA 147 1 135 136,
 sT 1 147 142,iA 148 1 137 138,sT 1 148 146]
 [])
 (.seq (.ops [mT 149 10,bN 150 .add (.t 149) (cI 1),mT 10 150])
 (.ops [mT 151 11,bN 152 .sub (.t 151) (cI 1),mT 11 152])))))))))
 (.seq (.draw [mT 153 0,mT 154 11,mT 155 0,mT 156 1,mT 157 0,mT 158 1,iA 159 1 157 158,l1 160 159,mT 161 0,mT 162 11,iA 163 1 161 162,l1 164 163,iA 165 1 153 154,
 sT 1 165 160,iA 166 1 155 156,sT 1 166 164]
 [])
 (.seq (.ops [mT 167 11,mT 8 167,mC 9 (.bool false)])
 .ret)))))))))))) }
def C.math_bits_Len32 : LFunc := { np := 1,res := [.tmp 2],keep := false,body :=
 (.seq (.ops [mC 2 (.int .i64 0)])
 (.seq (.seq (.ops [mT 3 0,bN 4 .geq (.t 3) (.c (.int .u32 65536))])
 (.cond (.t 4)
 (.seq (.ops [mT 5 0,bN 6 .shr (.t 5) (.c (.int .u64 16)),mT 0 6])
 (.ops [mC 2 (.int .i64 16)]))
 .skip))
 (.seq (.seq (.ops [mT 7 0,bN 8 .geq (.t 7) (.c (.int .u32 256))])
 (.cond (.t 8)
 (.seq (.ops [mT 9 0,bN 10 .shr (.t 9) (.c (.int .u64 8)),mT 0 10])
 (.ops [mT 11 2,bN 12 .add (.t 11) (cI 8),mT 2 12]))
 .skip))
 (.seq (.ops [mT 13 2,mT 14 0,o 15 (.wrap .u8 (.t 14)),
 o 16 (.ixs (.c (.str ⟨#[0,1,2,2,3,3,3,3,4,4,4,4,4,4,4,4,5,5,5,5,5,5,5,5,5,5,5,5,5,5,5,5,6,6,6,6,6,6,6,6,6,6,6,6,6,6,6,6,6,6,6,6,6,6,6,6,6,6,6,6,6,6,6,6,7,7,7,7,7,7,7,7,7,7,7,7,7,7,7,7,7,7,7,7,7,7,7,7,7,7,7,7,7,7,7,7,7,7,7,7,7,7,7,7,7,7,7,7,7,7,7,7,7,7,7,7,7,7,7,7,7,7,7,7,7,7,7,7,8,8,8,8,8,8,8,8,8,8,8,8,8,8,8,8,8,8,8,8,8,8,8,8,8,8,8,8,8,8,8,8,8,8,8,8,8,8,8,8,8,8,8,8,8,8,8,8,8,8,8,8,8,8,8,8,8,8,8,8,8,8,8,8,8,8,8,8,8,8,8,8,8,8,8,8,8,8,8,8,8,8,8,8,8,8,8,8,8,8,8,8,8,8,8,8,8,8,8,8,8,8,8,8,8,8,8,8,8,8,8,8,8,8,8,8,8,8,8,8,8,8,8,8,8,8,8,8]⟩)) (.t 15)),
 o 17 (.wrap .i64 (.t 16)),bN 18 .add (.t 13) (.t 17),mT 2 18])
 .ret)))) }
def C.math_bits_Len64 : LFunc := { np := 1,res := [.tmp 2],keep := false,body :=
 (.seq (.ops [mC 2 (.int .i64 0)])
 (.seq (.seq (.ops [mT 3 0,bN 4 .geq (.t 3) (.c (.int .u64 4294967296))])
 (.cond (.t 4)
 (.seq (.ops [mT 5 0,bN 6 .shr (.t 5) (.c (.int .u64 32)),mT 0 6])
 (.ops [mC 2 (.int .i64 32)]))
 .skip))
 (.seq (.seq (.ops [mT 7 0,bN 8 .geq (.t 7) (.c (.int .u64 65536))])
 (.cond (.t 8)
 (.seq (.ops [mT 9 0,bN 10 .shr (.t 9) (.c (.int .u64 16)),mT 0 10])
 (.ops [mT 11 2,bN 12 .add (.t 11) (cI 16),mT 2 12]))
 .skip))
 (.seq (.seq (.ops [mT 13 0,bN 14 .geq (.t 13) (.c (.int .u64 256))])
 (.cond (.t 14)
 (.seq (.ops [mT 15 0,bN 16 .shr (.t 15) (.c (.int .u64 8)),mT 0 16])
 (.ops [mT 17 2,bN 18 .add (.t 17) (cI 8),mT 2 18]))
 .skip))
 (.seq (.ops [mT 19 2,mT 20 0,o 21 (.wrap .u8 (.t 20)),
 o 22 (.ixs (.c (.str ⟨#[0,1,2,2,3,3,3,3,4,4,4,4,4,4,4,4,5,5,5,5,5,5,5,5,5,5,5,5,5,5,5,5,6,6,6,6,6,6,6,6,6,6,6,6,6,6,6,6,6,6,6,6,6,6,6,6,6,6,6,6,6,6,6,6,7,7,7,7,7,7,7,7,7,7,7,7,7,7,7,7,7,7,7,7,7,7,7,7,7,7,7,7,7,7,7,7,7,7,7,7,7,7,7,7,7,7,7,7,7,7,7,7,7,7,7,7,7,7,7,7,7,7,7,7,7,7,7,7,8,8,8,8,8,8,8,8,8,8,8,8,8,8,8,8,8,8,8,8,8,8,8,8,8,8,8,8,8,8,8,8,8,8,8,8,8,8,8,8,8,8,8,8,8,8,8,8,8,8,8,8,8,8,8,8,8,8,8,8,8,8,8,8,8,8,8,8,8,8,8,8,8,8,8,8,8,8,8,8,8,8,8,8,8,8,8,8,8,8,8,8,8,8,8,8,8,8,8,8,8,8,8,8,8,8,8,8,8,8,8,8,8,8,8,8,8,8,8,8,8,8,8,8,8,8,8,8]⟩)) (.t 21)),
 o 23 (.wrap .i64 (.t 22)),bN 24 .add (.t 19) (.t 23),mT 2 24])
 .ret))))) }
def C.R16_log_find : LFunc := { np := 2,res := [.tmp 4],keep := false,body :=
 (.seq (.ops [bX 2 5 0,mC 4 (.int .i64 0)])
 (.seq (.seq (.ops [mC 5 (.int .i64 0)])
 (.block 0 (.loop (.seq (.seq (.ops [mT 6 5,fA 7 1 2,l1 8 7,lN 9 8,bN 10 .lss (.t 6) (.t 9)])
 (.cond (.t 10)
 .skip
 (.exit 0)))
 (.seq (.block 1 (.seq (.ops [fA 13 2 2,l1 14 13,mT 15 5,iA 16 1 14 15,l1 17 16,mT 18 17,gF 19 18 true 1 2,g1 20 18 true 19,gM 21 18 true 5,
 og 22 18 true (.ia 6 (.t 20) (.t 21)),gF 23 18 true 0 22,g1 24 18 true 23,gM 25 18 true 1,gB 26 18 true .eql (.t 24) (.t 25),pA 27 18 26])
 (.cond (.t 27)
 (.seq (.ops [mT 28 5,mT 4 28])
 .ret)
 .skip)))
 (.ops [mT 11 5,bN 12 .add (.t 11) (cI 1),mT 5 12]))))))
 (.seq (.ops [mC 4 (.int .i64 (-1))])
 .ret))) }
def C.R16_log_complete : LFunc := { np := 2,res := [.tmp 4],keep := false,body :=
 (.seq (.ops [bX 2 5 0,bX 3 6 1,mC 4 (.bool false)])
 (.seq (.seq (.ops [mC 5 (.int .i64 0)])
 (.block 0 (.loop (.seq (.seq (.ops [mT 7 5,fA 8 2 3,l1 9 8,bN 10 .lss (.t 7) (.t 9)])
 (.cond (.t 10)
 .skip
 (.exit 0)))
 (.seq (.block 1 (.seq (.ops [lT 13 5 2,fA 14 0 3,l1 15 14,fA 16 1 3,l1 17 16,bN 18 .sub (.t 15) (.t 17),mT 19 5,bN 20 .add (.t 18) (.t 19),
 cL 21 F.R16_log_find [(.t 13),(.t 20)],mT 6 21])
 (.seq (.draw [mT 22 6,bN 23 .lss (.t 22) (cI 0),mT 24 23,gF 25 24 false 1 2,g1 26 24 false 25,gM 27 24 false 6,og 28 24 false (.ia 6 (.t 26) (.t 27)),
 gF 29 24 false 1 28,g1 30 24 false 29,gM 31 24 false 5,gB 32 24 false .neq (.t 30) (.t 31),pO 33 24 32,mT 34 33,gF 35 34 false 1 2,g1 36 34 false 35,gM 37 34 false 6,
 og 38 34 false (.ia 6 (.t 36) (.t 37)),gF 39 34 false 2 38,g1 40 34 false 39,gF 41 34 false 2 3,g1 42 34 false 41,gB 43 34 false .neq (.t 40) (.t 42),pO 44 34 43]
 [])
 (.cond (.t 44)
 (.seq (.ops [mC 4 (.bool false)])
 .ret)
 .skip))))
 (.ops [mT 11 5,bN 12 .add (.t 11) (cI 1),mT 5 12]))))))
 (.seq (.ops [mC 4 (.bool true)])
 .ret))) }
def C.slices_siftDownOrdered_int : LFunc := { np := 4,res := [],keep := false,body :=
 (.seq (.ops [mT 10 1,mT 8 10])
 (.block 0 (.loop (.block 1 (.seq (.ops [mT 11 8,bN 12 .mul (cI 2) (.t 11),bN 13 .add (.t 12) (cI 1),mT 9 13])
 (.seq (.seq (.ops [mT 14 9,mT 15 2,bN 16 .geq (.t 14) (.t 15)])
 (.cond (.t 16)
 (.exit 0)
 .skip))
 (.seq (.seq (.draw [mT 17 9,bN 18 .add (.t 17) (cI 1),mT 19 2,bN 20 .lss (.t 18) (.t 19),mT 21 20,gM 22 21 true 0,gM 23 21 true 3,gM 24 21 true 9,
 gB 25 21 true .add (.t 23) (.t 24),og 26 21 true (.ia 1 (.t 22) (.t 25)),g1 27 21 true 26,gM 28 21 true 0,gM 29 21 true 3,gM 30 21 true 9,
 gB 31 21 true .add (.t 29) (.t 30),gB 32 21 true .add (.t 31) (cI 1),og 33 21 true (.ia 1 (.t 28) (.t 32)),g1 34 21 true 33,
 gL 35 21 true F.cmp_Less_int [(.t 27),(.t 34)],pA 36 21 35]
 [])
 (.cond (.t 36)
 (.ops [mT 37 9,bN 38 .add (.t 37) (cI 1),mT 9 38])
 .skip))
 (.seq (.seq (.draw [mT 39 0,mT 40 3,mT 41 8,bN 42 .add (.t 40) (.t 41),iA 43 1 39 42,l1 44 43,mT 45 0,mT 46 3,mT 47 9,bN 48 .add (.t 46) (.t 47),iA 49 1 45 48,
 l1 50 49,cL 51 F.cmp_Less_int [(.t 44),(.t 50)],nT 52 51]
 [])
 (.cond (.t 52)
 .ret
 .skip))
 (.seq (.draw [mT 53 0,mT 54 3,mT 55 8,bN 56 .add (.t 54) (.t 55),mT 57 0,mT 58 3,mT 59 9,bN 60 .add (.t 58) (.t 59),mT 61 0,mT 62 3,mT 63 9,bN 64 .add (.t 62) (.t 63),
 iA 65 1 61 64,l1 66 65,mT 67 0,mT 68 3,mT 69 8,bN 70 .add (.t 68) (.t 69),iA 71 1 67 70,l1 72 71,iA 73 1 53 56,sT 1 73 66,iA 74 1 57 60,sT 1 74 72]
 [])
 (.ops [mT 75 9,mT 8 75])))))))))) }
def C.slices_nextPowerOfTwo : LFunc := { np := 1,res := [.tmp 2],keep := false,body :=
 (.seq (.ops [mC 2 (.int .u64 0)])
 (.seq (.ops [mT 3 0,o 4 (.wrap .u64 (.t 3)),cL 5 F.math_bits_Len [(.t 4)],bN 6 .shl (.c (.int .u64 1)) (.t 5),mT 2 6])
 .ret)) }
def C.slices_xorshift_Next : LFunc := { np := 1,res := [.tmp 2],keep := false,body :=
 (.seq (.ops [mC 2 (.int .u64 0)])
 (.seq (.draw [mT 3 0,nK 4 3,l1 5 4,mT 6 0,nK 7 6,l1 8 7,bN 9 .shl (.t 8) (.c (.int .u64 13)),bN 10 .xor (.t 5) (.t 9),nK 11 3,sT 1 11 10]
 [])
 (.seq (.draw [mT 12 0,nK 13 12,l1 14 13,mT 15 0,nK 16 15,l1 17 16,bN 18 .shr (.t 17) (.c (.int .u64 7)),bN 19 .xor (.t 14) (.t 18),nK 20 12,sT 1 20 19]
 [])
 (.seq (.draw [mT 21 0,nK 22 21,l1 23 22,mT 24 0,nK 25 24,l1 26 25,bN 27 .shl (.t 26) (.c (.int .u64 17)),bN 28 .xor (.t 23) (.t 27),nK 29 21,sT 1 29 28]
 [])
 (.seq (.ops [mT 30 0,nK 31 30,l1 32 31,mT 2 32])
 .ret))))) }
def C.slices_medianAdjacentOrdered_int : LFunc := { np := 3,res := [.tmp 6],keep := false,body :=
 (.seq (.ops [mC 6 (.int .i64 0)])
 (.seq (.ops [mT 7 0,mT 8 1,bN 9 .sub (.t 8) (cI 1),mT 10 1,mT 11 1,bN 12 .add (.t 11) (cI 1),mT 13 2,
 cL 14 F.slices_medianOrdered_int [(.t 7),(.t 9),(.t 10),(.t 12),(.t 13)],mT 6 14])
 .ret)) }
def C.slices_medianOrdered_int : LFunc := { np := 5,res := [.tmp 10],keep := false,body :=
 (.seq (.ops [mC 10 (.int .i64 0)])
 (.seq (.ops [mT 12 0,mT 13 1,mT 14 2,mT 15 4,cL 16 F.slices_order2Ordered_int [(.t 12),(.t 13),(.t 14),(.t 15)],mT 11 16,o 17 (.ext 0 (.t 11)),o 18 (.ext 1 (.t 11)),
 mT 1 17,mT 2 18])
 (.seq (.ops [mT 20 0,mT 21 2,mT 22 3,mT 23 4,cL 24 F.slices_order2Ordered_int [(.t 20),(.t 21),(.t 22),(.t 23)],mT 19 24,o 25 (.ext 0 (.t 19)),o 26 (.ext 1 (.t 19)),
 mT 2 25,mT 3 26])
 (.seq (.ops [mT 28 0,mT 29 1,mT 30 2,mT 31 4,cL 32 F.slices_order2Ordered_int [(.t 28),(.t 29),(.t 30),(.t 31)],mT 27 32,o 33 (.ext 0 (.t 27)),o 34 (.ext 1 (.t 27)),
 mT 1 33,mT 2 34])
 (.seq (.ops [mT 35 2,mT 10 35])
 .ret))))) }
def C.cmp_isNaN_int : LFunc := { np := 1,res := [.tmp 2],keep := false,body :=
 (.seq (.ops [mC 2 (.bool false)])
 (.seq (.ops [mT 3 0,mT 4 0,bN 5 .neq (.t 3) (.t 4),mT 2 5])
 .ret)) }
def C.slices_order2Ordered_int : LFunc := { np := 4,res := [.tmp 8,.tmp 9],keep := false,body :=
 (.seq (.ops [mC 8 (.int .i64 0),mC 9 (.int .i64 0)])
 (.seq (.seq (.draw [mT 10 0,mT 11 2,iA 12 1 10 11,l1 13 12,mT 14 0,mT 15 1,iA 16 1 14 15,l1 17 16,cL 18 F.cmp_Less_int [(.t 13),(.t 17)]]
 [])
 (.cond (.t 18)
 (.seq (.ops [mT 19 3,nK 20 19,l1 21 20,bN 22 .add (.t 21) (cI 1),nK 23 19,sT 1 23 22])
 (.seq (.ops [mT 24 2,mT 25 1,mT 8 24,mT 9 25])
 .ret))
 .skip))
 (.seq (.ops [mT 26 1,mT 27 2,mT 8 26,mT 9 27])
 .ret))) }
def tbl : List (Nat × LFunc) := [(3,C.W16_DiskRecords),(4,C.W16_works),(5,C.disk_Bytes),(6,C.R16_Bytes),(7,C.disk_Record),(8,C.R16_Record),(9,C.W16_rec),(10,C.W16_put),(11,C.disk_Append),(12,C.W16_A),(13,C.W16_drop),(14,C.disk_Look),(15,C.W16_D),(16,C.disk_Clean),(17,C.W16_B),(18,C.disk_Gains),(19,C.R16_SameSteps),(20,C.W16_written),(21,C.W16_sync),(22,C.R16_SameState),(23,C.W16_erase),(24,C.disk_Do),(25,C.R16_SameList),(26,C.disk_fine),(27,C.disk_encode),(28,C.R16_Right),(29,C.R16_write),(30,C.disk_slot),(31,C.disk_decode),(32,C.R16_read),(33,C.disk_Append_c1),(34,C.disk_said),(35,C.disk_opened),(36,C.slices_ContainsFunc_s_api_DiskChange_api_DiskChange),(37,C.disk_still),(38,C.disk_journal_deciding),(39,C.disk_batch_add),(40,C.disk_journal_loose),(41,C.disk_Append_c2),(42,C.disk_journal_again),(43,C.disk_journal_empty),(44,C.disk_journal_steps),(45,C.R16_Append),(46,C.R16_Make),(47,C.R16_Do),(48,C.disk_look),(49,C.disk_journal_records),(50,C.disk_journal_counts),(51,C.R16_Crash),(52,C.disk_journal_gain),(53,C.disk_journal_moved),(54,C.disk_erase_step),(55,C.disk_sync_step),(56,C.disk_acted),(57,C.disk_device_allowed),(58,C.disk_device_do),(59,C.disk_device_closed),(60,C.disk_in),(61,C.R16_in),(62,C.R16_text),(63,C.R16_zeros),(64,C.slices_IndexFunc_s_api_DiskChange_api_DiskChange),(65,C.slices_Sort_s_int_int),(66,C.slices_Compact_s_int_int),(67,C.disk_write_step),(68,C.R16_change),(69,C.R16_wanted),(70,C.R16_log_loose),(71,C.R16_named),(72,C.R16_log_again),(73,C.R16_log_empties),(74,C.R16_log_written),(75,C.R16_Formed),(76,C.R16_stepped),(77,C.R16_allowed),(78,C.R16_settled),(79,C.slices_Clone_s_disk_act_disk_act),(80,C.disk_device_settle),(81,C.disk_journal_complete),(82,C.disk_journal_records_c1),(83,C.R16_happened),(84,C.disk_journal_copies),(85,C.slices_ContainsFunc_s_disk_act_disk_act),(86,C.disk_device_allowed_c1),(87,C.disk_device_allowed_c2),(88,C.slices_pdqsortOrdered_int),(89,C.math_bits_Len),(90,C.R16_logged),(91,C.R16_log_decides),(92,C.R16_whole),(93,C.disk_device_crash),(94,C.R16_begun),(95,C.disk_placed_segment),(96,C.disk_journal_another),(97,C.slices_IndexFunc_s_disk_act_disk_act),(98,C.slices_insertionSortOrdered_int),(99,C.slices_heapSortOrdered_int),(100,C.slices_breakPatternsOrdered_int),(101,C.slices_choosePivotOrdered_int),(102,C.slices_reverseRangeOrdered_int),(103,C.slices_partialInsertionSortOrdered_int),(104,C.cmp_Less_int),(105,C.slices_partitionEqualOrdered_int),(106,C.slices_partitionOrdered_int),(107,C.math_bits_Len32),(108,C.math_bits_Len64),(109,C.R16_log_find),(110,C.R16_log_complete),(111,C.slices_siftDownOrdered_int),(112,C.slices_nextPowerOfTwo),(113,C.slices_xorshift_Next),(114,C.slices_medianAdjacentOrdered_int),(115,C.slices_medianOrdered_int),(116,C.cmp_isNaN_int),(117,C.slices_order2Ordered_int)]
def L : Prog := fun f => tbl.lookup f
theorem LF.W16_DiskRecords : L F.W16_DiskRecords = some C.W16_DiskRecords := by kernel_rfl
theorem LF.W16_works : L F.W16_works = some C.W16_works := by kernel_rfl
theorem LF.disk_Bytes : L F.disk_Bytes = some C.disk_Bytes := by kernel_rfl
theorem LF.R16_Bytes : L F.R16_Bytes = some C.R16_Bytes := by kernel_rfl
theorem LF.disk_Record : L F.disk_Record = some C.disk_Record := by kernel_rfl
theorem LF.R16_Record : L F.R16_Record = some C.R16_Record := by kernel_rfl
theorem LF.W16_rec : L F.W16_rec = some C.W16_rec := by kernel_rfl
theorem LF.W16_put : L F.W16_put = some C.W16_put := by kernel_rfl
theorem LF.disk_Append : L F.disk_Append = some C.disk_Append := by kernel_rfl
theorem LF.W16_A : L F.W16_A = some C.W16_A := by kernel_rfl
theorem LF.W16_drop : L F.W16_drop = some C.W16_drop := by kernel_rfl
theorem LF.disk_Look : L F.disk_Look = some C.disk_Look := by kernel_rfl
theorem LF.W16_D : L F.W16_D = some C.W16_D := by kernel_rfl
theorem LF.disk_Clean : L F.disk_Clean = some C.disk_Clean := by kernel_rfl
theorem LF.W16_B : L F.W16_B = some C.W16_B := by kernel_rfl
theorem LF.disk_Gains : L F.disk_Gains = some C.disk_Gains := by kernel_rfl
theorem LF.R16_SameSteps : L F.R16_SameSteps = some C.R16_SameSteps := by kernel_rfl
theorem LF.W16_written : L F.W16_written = some C.W16_written := by kernel_rfl
theorem LF.W16_sync : L F.W16_sync = some C.W16_sync := by kernel_rfl
theorem LF.R16_SameState : L F.R16_SameState = some C.R16_SameState := by kernel_rfl
theorem LF.W16_erase : L F.W16_erase = some C.W16_erase := by kernel_rfl
theorem LF.disk_Do : L F.disk_Do = some C.disk_Do := by kernel_rfl
theorem LF.R16_SameList : L F.R16_SameList = some C.R16_SameList := by kernel_rfl
theorem LF.disk_fine : L F.disk_fine = some C.disk_fine := by kernel_rfl
theorem LF.disk_encode : L F.disk_encode = some C.disk_encode := by kernel_rfl
theorem LF.R16_Right : L F.R16_Right = some C.R16_Right := by kernel_rfl
theorem LF.R16_write : L F.R16_write = some C.R16_write := by kernel_rfl
theorem LF.disk_slot : L F.disk_slot = some C.disk_slot := by kernel_rfl
theorem LF.disk_decode : L F.disk_decode = some C.disk_decode := by kernel_rfl
theorem LF.R16_read : L F.R16_read = some C.R16_read := by kernel_rfl
theorem LF.disk_Append_c1 : L F.disk_Append_c1 = some C.disk_Append_c1 := by kernel_rfl
theorem LF.disk_said : L F.disk_said = some C.disk_said := by kernel_rfl
theorem LF.disk_opened : L F.disk_opened = some C.disk_opened := by kernel_rfl
theorem LF.slices_ContainsFunc_s_api_DiskChange_api_DiskChange : L F.slices_ContainsFunc_s_api_DiskChange_api_DiskChange = some C.slices_ContainsFunc_s_api_DiskChange_api_DiskChange := by kernel_rfl
theorem LF.disk_still : L F.disk_still = some C.disk_still := by kernel_rfl
theorem LF.disk_journal_deciding : L F.disk_journal_deciding = some C.disk_journal_deciding := by kernel_rfl
theorem LF.disk_batch_add : L F.disk_batch_add = some C.disk_batch_add := by kernel_rfl
theorem LF.disk_journal_loose : L F.disk_journal_loose = some C.disk_journal_loose := by kernel_rfl
theorem LF.disk_Append_c2 : L F.disk_Append_c2 = some C.disk_Append_c2 := by kernel_rfl
theorem LF.disk_journal_again : L F.disk_journal_again = some C.disk_journal_again := by kernel_rfl
theorem LF.disk_journal_empty : L F.disk_journal_empty = some C.disk_journal_empty := by kernel_rfl
theorem LF.disk_journal_steps : L F.disk_journal_steps = some C.disk_journal_steps := by kernel_rfl
theorem LF.R16_Append : L F.R16_Append = some C.R16_Append := by kernel_rfl
theorem LF.R16_Make : L F.R16_Make = some C.R16_Make := by kernel_rfl
theorem LF.R16_Do : L F.R16_Do = some C.R16_Do := by kernel_rfl
theorem LF.disk_look : L F.disk_look = some C.disk_look := by kernel_rfl
theorem LF.disk_journal_records : L F.disk_journal_records = some C.disk_journal_records := by kernel_rfl
theorem LF.disk_journal_counts : L F.disk_journal_counts = some C.disk_journal_counts := by kernel_rfl
theorem LF.R16_Crash : L F.R16_Crash = some C.R16_Crash := by kernel_rfl
theorem LF.disk_journal_gain : L F.disk_journal_gain = some C.disk_journal_gain := by kernel_rfl
theorem LF.disk_journal_moved : L F.disk_journal_moved = some C.disk_journal_moved := by kernel_rfl
theorem LF.disk_erase_step : L F.disk_erase_step = some C.disk_erase_step := by kernel_rfl
theorem LF.disk_sync_step : L F.disk_sync_step = some C.disk_sync_step := by kernel_rfl
theorem LF.disk_acted : L F.disk_acted = some C.disk_acted := by kernel_rfl
theorem LF.disk_device_allowed : L F.disk_device_allowed = some C.disk_device_allowed := by kernel_rfl
theorem LF.disk_device_do : L F.disk_device_do = some C.disk_device_do := by kernel_rfl
theorem LF.disk_device_closed : L F.disk_device_closed = some C.disk_device_closed := by kernel_rfl
theorem LF.disk_in : L F.disk_in = some C.disk_in := by kernel_rfl
theorem LF.R16_in : L F.R16_in = some C.R16_in := by kernel_rfl
theorem LF.R16_text : L F.R16_text = some C.R16_text := by kernel_rfl
theorem LF.R16_zeros : L F.R16_zeros = some C.R16_zeros := by kernel_rfl
theorem LF.slices_IndexFunc_s_api_DiskChange_api_DiskChange : L F.slices_IndexFunc_s_api_DiskChange_api_DiskChange = some C.slices_IndexFunc_s_api_DiskChange_api_DiskChange := by kernel_rfl
theorem LF.slices_Sort_s_int_int : L F.slices_Sort_s_int_int = some C.slices_Sort_s_int_int := by kernel_rfl
theorem LF.slices_Compact_s_int_int : L F.slices_Compact_s_int_int = some C.slices_Compact_s_int_int := by kernel_rfl
theorem LF.disk_write_step : L F.disk_write_step = some C.disk_write_step := by kernel_rfl
theorem LF.R16_change : L F.R16_change = some C.R16_change := by kernel_rfl
theorem LF.R16_wanted : L F.R16_wanted = some C.R16_wanted := by kernel_rfl
theorem LF.R16_log_loose : L F.R16_log_loose = some C.R16_log_loose := by kernel_rfl
theorem LF.R16_named : L F.R16_named = some C.R16_named := by kernel_rfl
theorem LF.R16_log_again : L F.R16_log_again = some C.R16_log_again := by kernel_rfl
theorem LF.R16_log_empties : L F.R16_log_empties = some C.R16_log_empties := by kernel_rfl
theorem LF.R16_log_written : L F.R16_log_written = some C.R16_log_written := by kernel_rfl
theorem LF.R16_Formed : L F.R16_Formed = some C.R16_Formed := by kernel_rfl
theorem LF.R16_stepped : L F.R16_stepped = some C.R16_stepped := by kernel_rfl
theorem LF.R16_allowed : L F.R16_allowed = some C.R16_allowed := by kernel_rfl
theorem LF.R16_settled : L F.R16_settled = some C.R16_settled := by kernel_rfl
theorem LF.slices_Clone_s_disk_act_disk_act : L F.slices_Clone_s_disk_act_disk_act = some C.slices_Clone_s_disk_act_disk_act := by kernel_rfl
theorem LF.disk_device_settle : L F.disk_device_settle = some C.disk_device_settle := by kernel_rfl
theorem LF.disk_journal_complete : L F.disk_journal_complete = some C.disk_journal_complete := by kernel_rfl
theorem LF.disk_journal_records_c1 : L F.disk_journal_records_c1 = some C.disk_journal_records_c1 := by kernel_rfl
theorem LF.R16_happened : L F.R16_happened = some C.R16_happened := by kernel_rfl
theorem LF.disk_journal_copies : L F.disk_journal_copies = some C.disk_journal_copies := by kernel_rfl
theorem LF.slices_ContainsFunc_s_disk_act_disk_act : L F.slices_ContainsFunc_s_disk_act_disk_act = some C.slices_ContainsFunc_s_disk_act_disk_act := by kernel_rfl
theorem LF.disk_device_allowed_c1 : L F.disk_device_allowed_c1 = some C.disk_device_allowed_c1 := by kernel_rfl
theorem LF.disk_device_allowed_c2 : L F.disk_device_allowed_c2 = some C.disk_device_allowed_c2 := by kernel_rfl
theorem LF.slices_pdqsortOrdered_int : L F.slices_pdqsortOrdered_int = some C.slices_pdqsortOrdered_int := by kernel_rfl
theorem LF.math_bits_Len : L F.math_bits_Len = some C.math_bits_Len := by kernel_rfl
theorem LF.R16_logged : L F.R16_logged = some C.R16_logged := by kernel_rfl
theorem LF.R16_log_decides : L F.R16_log_decides = some C.R16_log_decides := by kernel_rfl
theorem LF.R16_whole : L F.R16_whole = some C.R16_whole := by kernel_rfl
theorem LF.disk_device_crash : L F.disk_device_crash = some C.disk_device_crash := by kernel_rfl
theorem LF.R16_begun : L F.R16_begun = some C.R16_begun := by kernel_rfl
theorem LF.disk_placed_segment : L F.disk_placed_segment = some C.disk_placed_segment := by kernel_rfl
theorem LF.disk_journal_another : L F.disk_journal_another = some C.disk_journal_another := by kernel_rfl
theorem LF.slices_IndexFunc_s_disk_act_disk_act : L F.slices_IndexFunc_s_disk_act_disk_act = some C.slices_IndexFunc_s_disk_act_disk_act := by kernel_rfl
theorem LF.slices_insertionSortOrdered_int : L F.slices_insertionSortOrdered_int = some C.slices_insertionSortOrdered_int := by kernel_rfl
theorem LF.slices_heapSortOrdered_int : L F.slices_heapSortOrdered_int = some C.slices_heapSortOrdered_int := by kernel_rfl
theorem LF.slices_breakPatternsOrdered_int : L F.slices_breakPatternsOrdered_int = some C.slices_breakPatternsOrdered_int := by kernel_rfl
theorem LF.slices_choosePivotOrdered_int : L F.slices_choosePivotOrdered_int = some C.slices_choosePivotOrdered_int := by kernel_rfl
theorem LF.slices_reverseRangeOrdered_int : L F.slices_reverseRangeOrdered_int = some C.slices_reverseRangeOrdered_int := by kernel_rfl
theorem LF.slices_partialInsertionSortOrdered_int : L F.slices_partialInsertionSortOrdered_int = some C.slices_partialInsertionSortOrdered_int := by kernel_rfl
theorem LF.cmp_Less_int : L F.cmp_Less_int = some C.cmp_Less_int := by kernel_rfl
theorem LF.slices_partitionEqualOrdered_int : L F.slices_partitionEqualOrdered_int = some C.slices_partitionEqualOrdered_int := by kernel_rfl
theorem LF.slices_partitionOrdered_int : L F.slices_partitionOrdered_int = some C.slices_partitionOrdered_int := by kernel_rfl
theorem LF.math_bits_Len32 : L F.math_bits_Len32 = some C.math_bits_Len32 := by kernel_rfl
theorem LF.math_bits_Len64 : L F.math_bits_Len64 = some C.math_bits_Len64 := by kernel_rfl
theorem LF.R16_log_find : L F.R16_log_find = some C.R16_log_find := by kernel_rfl
theorem LF.R16_log_complete : L F.R16_log_complete = some C.R16_log_complete := by kernel_rfl
theorem LF.slices_siftDownOrdered_int : L F.slices_siftDownOrdered_int = some C.slices_siftDownOrdered_int := by kernel_rfl
theorem LF.slices_nextPowerOfTwo : L F.slices_nextPowerOfTwo = some C.slices_nextPowerOfTwo := by kernel_rfl
theorem LF.slices_xorshift_Next : L F.slices_xorshift_Next = some C.slices_xorshift_Next := by kernel_rfl
theorem LF.slices_medianAdjacentOrdered_int : L F.slices_medianAdjacentOrdered_int = some C.slices_medianAdjacentOrdered_int := by kernel_rfl
theorem LF.slices_medianOrdered_int : L F.slices_medianOrdered_int = some C.slices_medianOrdered_int := by kernel_rfl
theorem LF.cmp_isNaN_int : L F.cmp_isNaN_int = some C.cmp_isNaN_int := by kernel_rfl
theorem LF.slices_order2Ordered_int : L F.slices_order2Ordered_int = some C.slices_order2Ordered_int := by kernel_rfl
end Go.Proofs.YtcoemakddkfdcaaGreat
