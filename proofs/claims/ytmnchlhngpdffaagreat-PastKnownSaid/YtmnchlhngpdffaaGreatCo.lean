/- The interpreter's text of the functions that are reached: made by program. -/
import Derived.Test.YtmnchlhngpdffaaGreatRows
import Derived.Test.YtmnchlhngpdffaaGreatHxD
set_option linter.all false
namespace Go.Proofs.YtmnchlhngpdffaaGreat
open Go.Abs Go.Proofs
abbrev F.W23_PastVerifies : Nat := 3
abbrev F.W23_PastWorlds : Nat := 4
abbrev F.W23_PastWriters : Nat := 5
abbrev F.W23_PastFirsts : Nat := 6
abbrev F.W23_PastKnown : Nat := 7
abbrev F.W23_PastLogs : Nat := 8
abbrev F.W23_small : Nat := 9
abbrev F.W23_known : Nat := 10
abbrev F.past_Verify : Nat := 11
abbrev F.R23_Log : Nat := 12
abbrev F.R23_Wrong : Nat := 13
abbrev F.past_At : Nat := 14
abbrev F.past_Events : Nat := 15
abbrev F.past_Inside : Nat := 16
abbrev F.R23_Turns : Nat := 17
abbrev F.W23_none : Nat := 18
abbrev F.R23_At : Nat := 19
abbrev F.R06_Same : Nat := 20
abbrev F.R23_Events : Nat := 21
abbrev F.R06_SameEvents : Nat := 22
abbrev F.R23_Turn : Nat := 23
abbrev F.R23_Inside : Nat := 24
abbrev F.past_Touched : Nat := 25
abbrev F.past_Writer : Nat := 26
abbrev F.R23_Writer : Nat := 27
abbrev F.R23_Touched : Nat := 28
abbrev F.past_Sender : Nat := 29
abbrev F.past_Reader : Nat := 30
abbrev F.past_Born : Nat := 31
abbrev F.W23_first : Nat := 32
abbrev F.past_Find : Nat := 33
abbrev F.R23_When : Nat := 34
abbrev F.R23_Find : Nat := 35
abbrev F.R06_SmallWorld : Nat := 36
abbrev F.past_Begin : Nat := 37
abbrev F.R05_Formed : Nat := 38
abbrev F.R06_World : Nat := 39
abbrev F.R23_Begin : Nat := 40
abbrev F.R23_Same : Nat := 41
abbrev F.past_Check : Nat := 42
abbrev F.past_Add : Nat := 43
abbrev F.past_Cut : Nat := 44
abbrev F.W23_blank : Nat := 45
abbrev F.R23_Add : Nat := 46
abbrev F.R23_Cut : Nat := 47
abbrev F.R05_SmallProg : Nat := 48
abbrev F.R23_Small : Nat := 49
abbrev F.W23_P : Nat := 50
abbrev F.W23_A : Nat := 51
abbrev F.R06_Int : Nat := 52
abbrev F.past_caught : Nat := 53
abbrev F.past_Verify_c1 : Nat := 54
abbrev F.past_played : Nat := 55
abbrev F.past_player_wrong : Nat := 56
abbrev F.R23_in : Nat := 57
abbrev F.R06_Settle : Nat := 58
abbrev F.R23_After : Nat := 59
abbrev F.past_At_c1 : Nat := 60
abbrev F.past_must : Nat := 61
abbrev F.past_copied : Nat := 62
abbrev F.past_player_at : Nat := 63
abbrev F.past_Events_c1 : Nat := 64
abbrev F.past_player_turns : Nat := 65
abbrev F.past_Inside_c1 : Nat := 66
abbrev F.past_player_one : Nat := 67
abbrev F.past_player_plain : Nat := 68
abbrev F.mean_Step : Nat := 69
abbrev F.R23_turn : Nat := 70
abbrev F.R06_SameInts : Nat := 71
abbrev F.R06_SameOuts : Nat := 72
abbrev F.R06_SameObj : Nat := 73
abbrev F.R23_settling : Nat := 74
abbrev F.R06_Ready : Nat := 75
abbrev F.R06_Step : Nat := 76
abbrev F.R06_Modulo : Nat := 77
abbrev F.past_Touched_c1 : Nat := 78
abbrev F.past_player_object : Nat := 79
abbrev F.past_Writer_c1 : Nat := 80
abbrev F.past_Sender_c1 : Nat := 81
abbrev F.past_player_first : Nat := 82
abbrev F.past_Sender_c2 : Nat := 83
abbrev F.past_Reader_c1 : Nat := 84
abbrev F.past_Reader_c2 : Nat := 85
abbrev F.past_Born_c1 : Nat := 86
abbrev F.past_Born_c2 : Nat := 87
abbrev F.R23_More : Nat := 88
abbrev F.past_Find_c1 : Nat := 89
abbrev F.past_when : Nat := 90
abbrev F.past_player_worlds : Nat := 91
abbrev F.R23_Holds : Nat := 92
abbrev F.R06_smallVals : Nat := 93
abbrev F.past_Begin_c1 : Nat := 94
abbrev F.mean_Check : Nat := 95
abbrev F.mean_Settle : Nat := 96
abbrev F.R05_in : Nat := 97
abbrev F.R05_cons : Nat := 98
abbrev F.R05_node : Nat := 99
abbrev F.R06_Ints : Nat := 100
abbrev F.R06_in : Nat := 101
abbrev F.R06_tasks : Nat := 102
abbrev F.R06_object : Nat := 103
abbrev F.past_Add_c1 : Nat := 104
abbrev F.past_player_turn : Nat := 105
abbrev F.past_copies : Nat := 106
abbrev F.past_player_marked : Nat := 107
abbrev F.past_Cut_c1 : Nat := 108
abbrev F.R01_SmallPat : Nat := 109
abbrev F.R02_ParseModule : Nat := 110
abbrev F.R05_Bind : Nat := 111
abbrev F.R06_Start : Nat := 112
abbrev F.past_player_wrong_c1 : Nat := 113
abbrev F.past_same : Nat := 114
abbrev F.slices_Clone_s_int_int : Nat := 115
abbrev F.slices_Clone_s_api_MeanOut_api_MeanOut : Nat := 116
abbrev F.slices_Clone_s_api_MeanVal_api_MeanVal : Nat := 117
abbrev F.past_player_turns_c1 : Nat := 118
abbrev F.mean_running : Nat := 119
abbrev F.mean_within : Nat := 120
abbrev F.mean_runner_step : Nat := 121
abbrev F.mean_rank : Nat := 122
abbrev F.mean_runner_copied : Nat := 123
abbrev F.R06_Turn : Nat := 124
abbrev F.R06_SameVals : Nat := 125
abbrev F.R06_set : Nat := 126
abbrev F.R06_Masked : Nat := 127
abbrev F.R06_more : Nat := 128
abbrev F.R06_Asks : Nat := 129
abbrev F.R06_onto : Nat := 130
abbrev F.R06_does : Nat := 131
abbrev F.R23_count : Nat := 132
abbrev F.past_player_worlds_c1 : Nat := 133
abbrev F.mean_runner_settle : Nat := 134
abbrev F.R01_Great : Nat := 135
abbrev F.R01_Differ : Nat := 136
abbrev F.R01_WeighPat : Nat := 137
abbrev F.R05_pat : Nat := 138
abbrev F.R05_kids : Nat := 139
abbrev F.R06_listed : Nat := 140
abbrev F.R06_task : Nat := 141
abbrev F.R06_frames : Nat := 142
abbrev F.R06_Open : Nat := 143
abbrev F.R06_values : Nat := 144
abbrev F.mean_Turn : Nat := 145
abbrev F.R01_smallPat : Nat := 146
abbrev F.R02_read : Nat := 147
abbrev F.R02_reader_module : Nat := 148
abbrev F.R02_reader_whole : Nat := 149
abbrev F.R01_Module : Nat := 150
abbrev F.R05_functions : Nat := 151
abbrev F.R05_constructors : Nat := 152
abbrev F.R05_names : Nat := 153
abbrev F.R01_Has : Nat := 154
abbrev F.R05_binder_known : Nat := 155
abbrev F.R05_place : Nat := 156
abbrev F.R05_binder_put : Nat := 157
abbrev F.R06_First : Nat := 158
abbrev F.past_same_c1 : Nat := 159
abbrev F.slices_Equal_s_api_MeanVal_api_MeanVal : Nat := 160
abbrev F.past_same_c2 : Nat := 161
abbrev F.slices_EqualFunc_s_api_MeanFrame__api_MeanFrame_api_MeanFrame_api_MeanFrame : Nat := 162
abbrev F.slices_EqualFunc_s_api_MeanObj__api_MeanObj_api_MeanObj_api_MeanObj : Nat := 163
abbrev F.slices_Equal_s_int_int : Nat := 164
abbrev F.slices_Equal_s_api_MeanOut_api_MeanOut : Nat := 165
abbrev F.bind_Check : Nat := 166
abbrev F.mean_runner_world : Nat := 167
abbrev F.mean_runner_finish : Nat := 168
abbrev F.mean_masked : Nat := 169
abbrev F.mean_runner_step_c1 : Nat := 170
abbrev F.mean_failed_event : Nat := 171
abbrev F.mean_turner_made : Nat := 172
abbrev F.mean_mapped : Nat := 173
abbrev F.mean_runner_copied_c1 : Nat := 174
abbrev F.R06_Copy : Nat := 175
abbrev F.R06_Ref : Nat := 176
abbrev F.R06_fails : Nat := 177
abbrev F.R06_back : Nat := 178
abbrev F.R06_Bool : Nat := 179
abbrev F.R06_Unit : Nat := 180
abbrev F.R06_made : Nat := 181
abbrev F.R06_applied : Nat := 182
abbrev F.R06_counted : Nat := 183
abbrev F.R06_matched : Nat := 184
abbrev F.R06_shifted : Nat := 185
abbrev F.R06_celled : Nat := 186
abbrev F.R06_spawned : Nat := 187
abbrev F.R06_joined : Nat := 188
abbrev F.R06_event : Nat := 189
abbrev F.R06_channeled : Nat := 190
abbrev F.R06_outside : Nat := 191
abbrev F.R01_small : Nat := 192
abbrev F.R06_value : Nat := 193
abbrev F.mean_runner_turn : Nat := 194
abbrev F.R02_Tokens : Nat := 195
abbrev F.R02_reader_want : Nat := 196
abbrev F.R02_reader_take : Nat := 197
abbrev F.R02_reader_has : Nat := 198
abbrev F.R02_reader_data : Nat := 199
abbrev F.R02_reader_function : Nat := 200
abbrev F.R01_Name : Nat := 201
abbrev F.R01_in : Nat := 202
abbrev F.R01_data : Nat := 203
abbrev F.R01_Whole : Nat := 204
abbrev F.R01_Term : Nat := 205
abbrev F.R05_con : Nat := 206
abbrev F.R05_binder_knownPat : Nat := 207
abbrev F.R05_within : Nat := 208
abbrev F.R01_Binds : Nat := 209
abbrev F.R05_binder_pattern : Nat := 210
abbrev F.bind_program_formed : Nat := 211
abbrev F.mean_all_api_MeanObj : Nat := 212
abbrev F.mean_runner_object : Nat := 213
abbrev F.mean_runner_tasks : Nat := 214
abbrev F.mean_all_api_MeanOut : Nat := 215
abbrev F.mean_runner_world_c1 : Nat := 216
abbrev F.mean_integer : Nat := 217
abbrev F.mean_inputs : Nat := 218
abbrev F.slices_Clone_s_api_MeanObj_api_MeanObj : Nat := 219
abbrev F.mean_turner_push : Nat := 220
abbrev F.slices_Clip_s_api_MeanVal_api_MeanVal : Nat := 221
abbrev F.mean_asks : Nat := 222
abbrev F.mean_turner_goes : Nat := 223
abbrev F.mean_operations : Nat := 224
abbrev F.mean_mapped_c1 : Nat := 225
abbrev F.slices_Clone_s_api_MeanFrame_api_MeanFrame : Nat := 226
abbrev F.R06_object1 : Nat := 227
abbrev F.R06_begun : Nat := 228
abbrev F.R06_Match : Nat := 229
abbrev F.mean_runner_ready : Nat := 230
abbrev F.R02_List : Nat := 231
abbrev F.R02_reader_is : Nat := 232
abbrev F.R02_reader_sees : Nat := 233
abbrev F.R02_reader_kind : Nat := 234
abbrev F.R02_reader_term : Nat := 235
abbrev F.R01_Key : Nat := 236
abbrev F.R01_WeighType : Nat := 237
abbrev F.R01_sorts : Nat := 238
abbrev F.R01_Weigh : Nat := 239
abbrev F.R01_nodes : Nat := 240
abbrev F.R01_PatNames : Nat := 241
abbrev F.bind_in : Nat := 242
abbrev F.bind_every_api_BindCon : Nat := 243
abbrev F.bind_con : Nat := 244
abbrev F.bind_differ : Nat := 245
abbrev F.bind_mapped_api_BindCon_string : Nat := 246
abbrev F.bind_program_formed_c1 : Nat := 247
abbrev F.bind_every_api_BindNode : Nat := 248
abbrev F.bind_program_node : Nat := 249
abbrev F.bind_every_int : Nat := 250
abbrev F.bind_program_formed_c2 : Nat := 251
abbrev F.slices_ContainsFunc_s_api_MeanObj_api_MeanObj : Nat := 252
abbrev F.mean_all_api_MeanObj_c1 : Nat := 253
abbrev F.mean_all_api_MeanVal : Nat := 254
abbrev F.mean_runner_value : Nat := 255
abbrev F.mean_runner_frames : Nat := 256
abbrev F.mean_runner_task : Nat := 257
abbrev F.mean_all_int : Nat := 258
abbrev F.slices_Collect_int : Nat := 259
abbrev F.mean_numbers : Nat := 260
abbrev F.mean_runner_tasks_c1 : Nat := 261
abbrev F.slices_ContainsFunc_s_api_MeanOut_api_MeanOut : Nat := 262
abbrev F.mean_all_api_MeanOut_c1 : Nat := 263
abbrev F.mean_must : Nat := 264
abbrev F.slices_Clip_s_api_MeanFrame_api_MeanFrame : Nat := 265
abbrev F.mean_turner_constant : Nat := 266
abbrev F.mean_turner_name : Nat := 267
abbrev F.mean_turner_function : Nat := 268
abbrev F.mean_turner_apply : Nat := 269
abbrev F.mean_turner_let : Nat := 270
abbrev F.mean_turner_choice : Nat := 271
abbrev F.mean_turner_sum : Nat := 272
abbrev F.mean_turner_less : Nat := 273
abbrev F.mean_turner_equal : Nat := 274
abbrev F.mean_turner_con : Nat := 275
abbrev F.mean_turner_match : Nat := 276
abbrev F.mean_turner_cell : Nat := 277
abbrev F.mean_turner_get : Nat := 278
abbrev F.mean_turner_put : Nat := 279
abbrev F.mean_turner_spawn : Nat := 280
abbrev F.mean_turner_join : Nat := 281
abbrev F.mean_turner_channel : Nat := 282
abbrev F.mean_turner_send : Nat := 283
abbrev F.mean_turner_take : Nat := 284
abbrev F.mean_turner_out : Nat := 285
abbrev F.mean_turner_input : Nat := 286
abbrev F.mean_turner_reset : Nat := 287
abbrev F.mean_turner_shift : Nat := 288
abbrev F.mean_turner_pause : Nat := 289
abbrev F.mean_runner_next : Nat := 290
abbrev F.R02_skipped : Nat := 291
abbrev F.R02_next : Nat := 292
abbrev F.R02_reader_simple : Nat := 293
abbrev F.R02_reader_under : Nat := 294
abbrev F.R02_reader_sum : Nat := 295
abbrev F.R02_two : Nat := 296
abbrev F.R01_keywords : Nat := 297
abbrev F.R01_node : Nat := 298
abbrev F.R01_Pat : Nat := 299
abbrev F.slices_ContainsFunc_s_api_BindCon_api_BindCon : Nat := 300
abbrev F.bind_every_api_BindCon_c1 : Nat := 301
abbrev F.term_Great : Nat := 302
abbrev F.slices_ContainsFunc_s_api_BindNode_api_BindNode : Nat := 303
abbrev F.bind_every_api_BindNode_c1 : Nat := 304
abbrev F.bind_kidsOf : Nat := 305
abbrev F.bind_program_node_c1 : Nat := 306
abbrev F.bind_size : Nat := 307
abbrev F.bind_program_pat : Nat := 308
abbrev F.bind_program_number : Nat := 309
abbrev F.bind_every_api_TermPat : Nat := 310
abbrev F.slices_ContainsFunc_s_int_int : Nat := 311
abbrev F.bind_every_int_c1 : Nat := 312
abbrev F.slices_IndexFunc_s_api_MeanObj_api_MeanObj : Nat := 313
abbrev F.slices_ContainsFunc_s_api_MeanVal_api_MeanVal : Nat := 314
abbrev F.mean_all_api_MeanVal_c1 : Nat := 315
abbrev F.mean_all_api_MeanFrame : Nat := 316
abbrev F.mean_runner_frame : Nat := 317
abbrev F.mean_runner_open : Nat := 318
abbrev F.mean_all_int_c1 : Nat := 319
abbrev F.slices_AppendSeq_s_int_int : Nat := 320
abbrev F.mean_numbers_c1 : Nat := 321
abbrev F.slices_IndexFunc_s_api_MeanOut_api_MeanOut : Nat := 322
abbrev F.mean_turner_comes : Nat := 323
abbrev F.mean_number : Nat := 324
abbrev F.mean_truth : Nat := 325
abbrev F.mean_unit : Nat := 326
abbrev F.mean_turner_create : Nat := 327
abbrev F.mean_turner_called : Nat := 328
abbrev F.mean_turner_want : Nat := 329
abbrev F.mean_with : Nat := 330
abbrev F.mean_turner_ints : Nat := 331
abbrev F.mean_turner_fits : Nat := 332
abbrev F.mean_turner_acts : Nat := 333
abbrev F.mean_turner_change : Nat := 334
abbrev F.slices_Clip_s_int_int : Nat := 335
abbrev F.slices_Clip_s_api_MeanOut_api_MeanOut : Nat := 336
abbrev F.R02_letter : Nat := 337
abbrev F.R02_run : Nat := 338
abbrev F.R02_great : Nat := 339
abbrev F.R02_digit : Nat := 340
abbrev F.R02_integer : Nat := 341
abbrev F.R02_number : Nat := 342
abbrev F.R02_sign : Nat := 343
abbrev F.R02_reader_of : Nat := 344
abbrev F.R02_reader_product : Nat := 345
abbrev F.R01_spare : Nat := 346
abbrev F.R01_pats : Nat := 347
abbrev F.slices_IndexFunc_s_api_BindCon_api_BindCon : Nat := 348
abbrev F.term_small : Nat := 349
abbrev F.slices_IndexFunc_s_api_BindNode_api_BindNode : Nat := 350
abbrev F.bind_integer : Nat := 351
abbrev F.slices_ContainsFunc_s_api_TermPat_api_TermPat : Nat := 352
abbrev F.bind_every_api_TermPat_c1 : Nat := 353
abbrev F.slices_IndexFunc_s_int_int : Nat := 354
abbrev F.slices_IndexFunc_s_api_MeanVal_api_MeanVal : Nat := 355
abbrev F.slices_ContainsFunc_s_api_MeanFrame_api_MeanFrame : Nat := 356
abbrev F.mean_all_api_MeanFrame_c1 : Nat := 357
abbrev F.slices_Clip_s_api_MeanObj_api_MeanObj : Nat := 358
abbrev F.mean_turner_object : Nat := 359
abbrev F.R02_signs : Nat := 360
abbrev F.R02_reader_applied : Nat := 361
abbrev F.slices_IndexFunc_s_api_TermPat_api_TermPat : Nat := 362
abbrev F.slices_IndexFunc_s_api_MeanFrame_api_MeanFrame : Nat := 363
abbrev F.R02_reader_atom : Nat := 364
abbrev F.R02_reader_begins : Nat := 365
abbrev F.R02_reader_terms : Nat := 366
abbrev F.R02_reader_cases : Nat := 367
abbrev F.R02_reader_call : Nat := 368
abbrev F.R02_called : Nat := 369
abbrev F.R02_reader_pat : Nat := 370
abbrev F.past_cellHas_holds : Nat := 386
abbrev F.past_outsAre_holds : Nat := 387
abbrev F.past_taskEnded_holds : Nat := 388
abbrev F.past_objsAre_holds : Nat := 389
abbrev F.mean_waits_event : Nat := 390
abbrev F.mean_does_event : Nat := 391
abbrev F.mean_plain_event : Nat := 392
abbrev F.bind_ofMatch_fine : Nat := 393
abbrev F.bind_fixed_fine : Nat := 394
abbrev F.bind_ofCon_fine : Nat := 395
def C.W23_PastKnown : LFunc := { np := 0,res := [.tmp 0],keep := false,body :=
 (.seq (.ops [mC 0 (.bool false)])
 (.seq (.ops [cL 1 F.W23_known [],mT 0 1])
 .ret)) }
def C.W23_known : LFunc := { np := 0,res := [.tmp 0],keep := false,body :=
 (.seq (.ops [mC 0 (.bool false)])
 (.seq (.ops [cL 29 F.W23_P [],cL 30 F.W23_A [],o 1 (.alloc [(.cl []),(.cl []),(.int .i64 0),(.cl [])]),o 2 (.alloc [(.int .i64 0),(.cl []),(.cl [])]),sT 4 1 29,
 sT 3 2 30])
 (.seq (.seq (.ops [lT 31 4 1,lT 32 3 2,cL 33 F.R23_Log [(.t 31),(.t 32)],nT 34 33,mT 35 34,gF 36 35 false 2 2,g1 37 35 false 36,gN 38 35 false 37,
 gB 39 35 false .neq (.t 38) (cI 3),pO 40 35 39])
 (.cond (.t 40)
 (.seq (.ops [mC 0 (.bool false)])
 .ret)
 .skip))
 (.seq (.ops [lT 42 4 1,lT 43 3 2,cL 44 F.past_At [(.t 42),(.t 43),(cI 5)],mT 41 44,o 45 (.ext 0 (.t 41)),o 46 (.ext 1 (.t 41)),o 47 (.ext 2 (.t 41)),
 o 3 (.alloc [(.cl []),(.cl []),(.cl []),(.cl []),(.int .i64 0)]),sT 5 3 45,mT 4 46,mT 5 47])
 (.seq (.ops [lT 49 4 1,lT 50 3 2,cL 51 F.past_Events [(.t 49),(.t 50),(cI 3),(cI 5)],mT 48 51,o 52 (.ext 0 (.t 48)),o 53 (.ext 1 (.t 48)),mT 6 52,mT 7 53])
 (.seq (.ops [lT 55 4 1,lT 56 3 2,cL 57 F.past_Touched [(.t 55),(.t 56),(cI 4)],mT 54 57,o 58 (.ext 0 (.t 54)),o 59 (.ext 1 (.t 54)),mT 8 58,mT 9 59])
 (.seq (.ops [lT 61 4 1,lT 62 3 2,cL 63 F.past_Writer [(.t 61),(.t 62),(cI 7),(cI 1)],mT 60 63,o 64 (.ext 0 (.t 60)),o 65 (.ext 1 (.t 60)),mT 10 64,mT 11 65])
 (.seq (.ops [lT 67 4 1,lT 68 3 2,cL 69 F.past_Writer [(.t 67),(.t 68),(cI 4),(cI 1)],mT 66 69,o 70 (.ext 0 (.t 66)),o 71 (.ext 1 (.t 66)),mT 12 70,mT 13 71])
 (.seq (.ops [lT 73 4 1,lT 74 3 2,cL 75 F.past_Sender [(.t 73),(.t 74),(cI 0)],mT 72 75,o 76 (.ext 0 (.t 72)),o 77 (.ext 1 (.t 72)),mT 14 76,mT 15 77])
 (.seq (.ops [lT 79 4 1,lT 80 3 2,cL 81 F.past_Reader [(.t 79),(.t 80),(cI 0)],mT 78 81,o 82 (.ext 0 (.t 78)),o 83 (.ext 1 (.t 78)),mT 16 82,mT 17 83])
 (.seq (.ops [lT 85 4 1,lT 86 3 2,cL 87 F.past_Born [(.t 85),(.t 86),(cI 1)],mT 84 87,o 88 (.ext 0 (.t 84)),o 89 (.ext 1 (.t 84)),mT 18 88,mT 19 89])
 (.seq (.draw [lT 91 4 1,lT 92 3 2,cL 93 F.R06_Int [(cI 7)],
 o 94 (.build [(.int .i64 0),(.int .i64 0),(.int .i64 0),(.int .i64 0)] [(0,1,(cI 1)),(1,1,(cI 1)),(2,2,(.t 93))]),cL 95 F.past_Find [(.t 91),(.t 92),(cI 0),(.t 94)],
 mT 90 95,o 96 (.ext 0 (.t 90)),o 97 (.ext 1 (.t 90)),mT 20 96,mT 21 97]
 [(0,2),(1,2)])
 (.seq (.ops [lT 99 4 1,lT 100 3 2,cL 101 F.past_Inside [(.t 99),(.t 100),(cI 6),(cI 2)],mT 98 101,o 102 (.ext 0 (.t 98)),o 103 (.ext 1 (.t 98)),
 o 22 (.alloc [(.cl []),(.cl []),(.cl []),(.cl []),(.int .i64 0)]),sT 5 22 102,mT 23 103])
 (.seq (.seq (.ops [mT 104 5,bN 105 .neq (.t 104) (cI 0),mT 106 105,gM 107 106 false 7,gB 108 106 false .neq (.t 107) (cI 0),pO 109 106 108,mT 110 109,
 gM 111 110 false 9,gB 112 110 false .neq (.t 111) (cI 0),pO 113 110 112,mT 114 113,gM 115 114 false 11,gB 116 114 false .neq (.t 115) (cI 0),pO 117 114 116,mT 118 117,
 gM 119 118 false 13,gB 120 118 false .neq (.t 119) (cI 0),pO 121 118 120,mT 122 121,gM 123 122 false 15,gB 124 122 false .neq (.t 123) (cI 0),pO 125 122 124,
 mT 126 125,gM 127 126 false 17,gB 128 126 false .neq (.t 127) (cI 0),pO 129 126 128,mT 130 129,gM 131 130 false 19,gB 132 130 false .neq (.t 131) (cI 0),
 pO 133 130 132,mT 134 133,gM 135 134 false 21,gB 136 134 false .neq (.t 135) (cI 0),pO 137 134 136,mT 138 137,gM 139 138 false 23,
 gB 140 138 false .neq (.t 139) (cI 5),pO 141 138 140,mT 142 141,gM 143 142 false 6,gN 144 142 false 143,gB 145 142 false .neq (.t 144) (cI 2),pO 146 142 145])
 (.cond (.t 146)
 (.seq (.ops [mC 0 (.bool false)])
 .ret)
 .skip))
 (.seq (.draw [fA 147 0 2,l1 148 147,fA 149 1 2,l1 150 149,fA 151 2 2,l1 152 151,o 153 (.ia 5 (.t 152) (cI 0)),lT 154 5 153,fA 155 2 2,l1 156 155,
 o 157 (.ia 5 (.t 156) (cI 2)),lT 158 5 157,fA 159 2 2,l1 160 159,o 161 (.ia 5 (.t 160) (cI 2)),lT 162 5 161,
 o 163 (.bslice 3 5 [(.cl []),(.cl []),(.cl []),(.cl []),(.int .i64 0)] [(0,(.t 154)),(1,(.t 158)),(2,(.t 162))]),
 o 164 (.build [(.int .i64 0),(.cl []),(.cl [])] [(0,1,(.t 148)),(1,1,(.t 150)),(2,1,(.t 163))]),o 24 (.alloc [(.int .i64 0),(.cl []),(.cl [])]),sT 3 24 164]
 [(1,16),(3,16),(1,18),(3,18),(5,18),(6,18),(7,18),(9,18),(10,18),(11,18),(13,18),(14,18),(15,18),(16,18)])
 (.seq (.ops [lT 166 4 1,lT 167 3 24,cL 168 F.past_Verify [(.t 166),(.t 167)],mT 165 168,o 169 (.ext 0 (.t 165)),o 170 (.ext 1 (.t 165)),mT 25 169,mT 26 170])
 (.seq (.ops [lT 172 4 1,lT 173 3 2,cL 174 F.past_Verify [(.t 172),(.t 173)],mT 171 174,o 175 (.ext 0 (.t 171)),o 176 (.ext 1 (.t 171)),mT 27 175,mT 28 176])
 (.seq (.draw [mT 177 4,bN 178 .eql (.t 177) (cI 2),mT 179 178,gM 180 179 true 6,og 181 179 true (.ia 5 (.t 180) (cI 1)),gT 182 179 true 5 181,
 gL 183 179 true F.R06_Int [(cI 7)],og 184 179 true (.build [(.int .i64 0),(.int .i64 0),(.int .i64 0),(.int .i64 0),(.int .i64 0)] [(1,1,(cI 18)),(3,2,(.t 183))]),
 og 185 179 true (.bin .eql (.agg [.num,.num,.num,.num,.num]) (.t 182) (.t 184)),pA 186 179 185,mT 187 186,gM 188 187 true 8,gB 189 187 true .eql (.t 188) (cI 1),
 pA 190 187 189,mT 191 190,gM 192 191 true 10,gB 193 191 true .eql (.t 192) (cI 4),pA 194 191 193,mT 195 194,gM 196 195 true 12,gB 197 195 true .eql (.t 196) (cI 0),
 pA 198 195 197,mT 199 198,gM 200 199 true 14,gB 201 199 true .eql (.t 200) (cI 2),pA 202 199 201,mT 203 202,gM 204 203 true 16,gB 205 203 true .eql (.t 204) (cI 3),
 pA 206 203 205,mT 207 206,gM 208 207 true 18,gB 209 207 true .eql (.t 208) (cI 0),pA 210 207 209,mT 211 210,gM 212 211 true 20,gB 213 211 true .eql (.t 212) (cI 5),
 pA 214 211 213,mT 215 214,gM 216 215 true 25,gB 217 215 true .eql (.t 216) (cI 3),pA 218 215 217,mT 219 218,gM 220 219 true 26,gB 221 219 true .eql (.t 220) (cI 7),
 pA 222 219 221,mT 223 222,gM 224 223 true 28,gB 225 223 true .eql (.t 224) (cI 0),pA 226 223 225,mT 0 226]
 [(4,6),(5,6)])
 .ret)))))))))))))))))) }
def C.past_Verify : LFunc := { np := 2,res := [.cell 4 false 1,.cell 5 false 1],keep := false,body :=
 (.seq (.ops [bX 2 4 0,bX 3 3 1,o 4 (.alloc [(.int .i64 0)]),o 5 (.alloc [(.int .i64 0)])])
 (.dfr [4,5] [o 6 (.mkfn F.past_Verify_c1 [] [(.t 4)])]
 (.f F.past_caught) [(.t 5),(.t 6)]
 (.seq (.opsP [lT 7 4 2,lT 8 3 3,cL 9 F.past_played [(.t 7),(.t 8)],cL 10 F.past_player_wrong [(.t 9)],sT 1 4 10])
 (.seq (.seq (.ops [l1 11 4,bN 12 .lss (.t 11) (cI 0)])
 (.cond (.t 12)
 (.seq (.ops [on (.store 1 (.t 4) (cI 0)),on (.store 1 (.t 5) (cI 0))])
 .ret)
 .skip))
 (.seq (.ops [l1 13 4,sT 1 4 13,on (.store 1 (.t 5) (cI 7))])
 .ret))))) }
def C.R23_Log : LFunc := { np := 2,res := [.tmp 4],keep := false,body :=
 (.seq (.ops [bX 2 4 0,bX 3 3 1,mC 4 (.bool false)])
 (.seq (.seq (.draw [lT 6 4 2,cL 7 F.R05_Formed [(.t 6)],nT 8 7,mT 9 8,gF 10 9 false 0 3,g1 11 9 false 10,gL 12 9 false F.R23_in [(.t 11),(cI 1),(cI 20)],
 og 13 9 false (.un .not (.t 12)),pO 14 9 13,mT 15 14,gF 16 15 false 1 3,g1 17 15 false 16,gN 18 15 false 17,gB 19 15 false .gtr (.t 18) (cI 200),pO 20 15 19,mT 21 20,
 gF 22 21 false 2 3,g1 23 21 false 22,gN 24 21 false 23,gF 25 21 false 1 3,g1 26 21 false 25,gN 27 21 false 26,gF 28 21 false 0 3,g1 29 21 false 28,
 gB 30 21 false .quo (.t 27) (.t 29),gB 31 21 false .add (.t 30) (cI 1),gB 32 21 false .neq (.t 24) (.t 31),pO 33 21 32]
 [])
 (.cond (.t 33)
 (.seq (.ops [mC 4 (.bool false)])
 .ret)
 .skip))
 (.seq (.seq (.ops [mC 5 (.int .i64 0)])
 (.block 0 (.loop (.seq (.seq (.ops [mT 34 5,fA 35 2 3,l1 36 35,lN 37 36,bN 38 .lss (.t 34) (.t 37)])
 (.cond (.t 38)
 .skip
 (.exit 0)))
 (.seq (.block 1 (.seq (.draw [lT 41 4 2,fA 42 2 3,l1 43 42,mT 44 5,iA 45 5 43 44,lT 46 5 45,cL 47 F.R06_World [(.t 41),(.t 46)],nT 48 47]
 [])
 (.cond (.t 48)
 (.seq (.ops [mC 4 (.bool false)])
 .ret)
 .skip)))
 (.ops [mT 39 5,bN 40 .add (.t 39) (cI 1),mT 5 40]))))))
 (.seq (.ops [mC 4 (.bool true)])
 .ret)))) }
def C.past_At : LFunc := { np := 3,res := [.cell 6 true 5,.cell 7 false 1,.cell 8 false 1],keep := false,body :=
 (.seq (.ops [bX 3 4 0,bX 4 3 1,o 6 (.alloc [(.cl []),(.cl []),(.cl []),(.cl []),(.int .i64 0)]),o 7 (.alloc [(.int .i64 0)]),o 8 (.alloc [(.int .i64 0)])])
 (.dfr [6,7,8] [o 10 (.mkfn F.past_At_c1 [] [(.t 6),(.t 7)])]
 (.f F.past_caught) [(.t 8),(.t 10)]
 (.seq (.opsP [lT 11 4 3,lT 12 3 4,cL 13 F.past_played [(.t 11),(.t 12)],mT 9 13])
 (.seq (.opsP [mT 14 2,bN 15 .geq (.t 14) (cI 0),mT 16 15,gM 17 16 true 2,gF 18 16 true 1 4,g1 19 16 true 18,gN 20 16 true 19,gB 21 16 true .leq (.t 17) (.t 20),
 pA 22 16 21,cL 23 F.past_must [(.t 22),(cI 2)]])
 (.seq (.drawP [mT 24 9,mT 25 2,cL 26 F.past_player_at [(.t 24),(.t 25)],cL 27 F.past_copied [(.t 26)],mT 28 2,fA 29 0 4,l1 30 29,bN 31 .rem (.t 28) (.t 30),sT 5 6 27,
 sT 1 7 31,on (.store 1 (.t 8) (cI 0))]
 [[],[],[0,1],[2,0,1],[],[],[5],[4,6,5],[3,0,1,2],[7,8,0,1,2,3,4,5,6],[9,0,1,2,3,4,5,6,7,8]]
 [(2,6),(3,6),(6,8)])
 .ret))))) }
def C.past_Events : LFunc := { np := 4,res := [.cell 8 false 1,.cell 9 false 1],keep := false,body :=
 (.seq (.ops [bX 4 4 0,bX 5 3 1,o 8 (.alloc [(.cl [])]),o 9 (.alloc [(.int .i64 0)])])
 (.dfr [8,9] [o 13 (.mkfn F.past_Events_c1 [] [(.t 8)])]
 (.f F.past_caught) [(.t 9),(.t 13)]
 (.seq (.opsP [lT 14 4 4,lT 15 3 5,cL 16 F.past_played [(.t 14),(.t 15)],mT 10 16])
 (.seq (.opsP [mT 17 2,bN 18 .geq (.t 17) (cI 0),mT 19 18,gM 20 19 true 2,gM 21 19 true 3,gB 22 19 true .leq (.t 20) (.t 21),pA 23 19 22,mT 24 23,gM 25 24 true 3,
 gF 26 24 true 1 5,g1 27 24 true 26,gN 28 24 true 27,gB 29 24 true .leq (.t 25) (.t 28),pA 30 24 29,cL 31 F.past_must [(.t 30),(cI 2)]])
 (.seq (.seq (.ops [mT 32 10,mT 33 2,mT 34 3,cL 35 F.past_player_turns [(.t 32),(.t 33),(.t 34)]])
 (.block 0 (.rangeF (.t 35) [36,37]
 (.ops [o 12 (.alloc ([(.cl []),(.cl []),(.cl []),(.cl []),(.int .i64 0),(.cl []),(.cl []),(.cl []),(.cl []),(.int .i64 0),(.int .i64 0),(.int .i64 0),(.int .i64 0),(.int .i64 0),(.int .i64 0)])),
 sT 15 12 37])
 (.block 1 (.ops [l1 38 8,fA 39 10 12,lT 40 5 39,o 41 (.bslice 1 5 [(.int .i64 0),(.int .i64 0),(.int .i64 0),(.int .i64 0),(.int .i64 0)] [(0,(.t 40))]),
 o 42 (.append 5 (.t 38) (.t 41)),sT 1 8 42])))))
 (.seq (.ops [l1 43 8,sT 1 8 43,on (.store 1 (.t 9) (cI 0))])
 .ret)))))) }
def C.past_Inside : LFunc := { np := 4,res := [.cell 8 true 5,.cell 9 false 1],keep := false,body :=
 (.seq (.ops [bX 4 4 0,bX 5 3 1,o 8 (.alloc [(.cl []),(.cl []),(.cl []),(.cl []),(.int .i64 0)]),o 9 (.alloc [(.int .i64 0)])])
 (.dfr [8,9] [o 13 (.mkfn F.past_Inside_c1 [] [(.t 8)])]
 (.f F.past_caught) [(.t 9),(.t 13)]
 (.seq (.opsP [lT 14 4 4,lT 15 3 5,cL 16 F.past_played [(.t 14),(.t 15)],mT 10 16])
 (.seq (.opsP [mT 17 2,bN 18 .geq (.t 17) (cI 0),mT 19 18,gM 20 19 true 2,gF 21 19 true 1 5,g1 22 19 true 21,gN 23 19 true 22,gB 24 19 true .lss (.t 20) (.t 23),
 pA 25 19 24,mT 26 25,gM 27 26 true 3,gB 28 26 true .geq (.t 27) (cI 0),pA 29 26 28,cL 30 F.past_must [(.t 29),(cI 2)]])
 (.seq (.opsP [mT 31 10,mT 32 2,cL 33 F.past_player_one [(.t 31),(.t 32)],
 o 11 (.alloc ([(.cl []),(.cl []),(.cl []),(.cl []),(.int .i64 0),(.cl []),(.cl []),(.cl []),(.cl []),(.int .i64 0),(.int .i64 0),(.int .i64 0),(.int .i64 0),(.int .i64 0),(.int .i64 0)])),
 sT 15 11 33])
 (.seq (.ops [mT 35 10,fA 36 0 11,lT 37 5 36,mT 38 3,cL 39 F.past_player_plain [(.t 35),(.t 37),(.t 38)],mT 34 39,o 40 (.ext 0 (.t 34)),o 41 (.ext 1 (.t 34)),sT 5 8 40,
 mT 12 41])
 (.seq (.seq (.ops [mT 42 12,bN 43 .eql (.t 42) (cI 0)])
 (.cond (.t 43)
 (.seq (.ops [lT 44 5 8,cL 45 F.past_copied [(.t 44)],sT 5 8 45,on (.store 1 (.t 9) (cI 0))])
 .ret)
 .skip))
 (.seq (.ops [lT 47 4 4,lT 48 5 8,fA 49 10 11,fA 50 0 49,l1 51 50,cL 52 F.mean_Step [(.t 47),(.t 48),(.t 51)],mT 46 52,o 53 (.ext 0 (.t 46)),o 54 (.ext 1 (.t 46)),
 o 55 (.ext 2 (.t 46)),sT 5 8 53,sT 1 9 55])
 (.seq (.opsP [l1 56 9,bN 57 .eql (.t 56) (cI 0),l1 58 9,cL 59 F.past_must [(.t 57),(.t 58)]])
 (.seq (.ops [mT 61 10,lT 62 5 8,mT 63 12,bN 64 .sub (.t 63) (cI 1),cL 65 F.past_player_plain [(.t 61),(.t 62),(.t 64)],mT 60 65,o 66 (.ext 0 (.t 60)),
 o 67 (.ext 1 (.t 60)),sT 5 8 66,mT 12 67])
 (.seq (.opsP [mT 68 12,bN 69 .eql (.t 68) (cI 0),cL 70 F.past_must [(.t 69),(cI 5)]])
 (.seq (.ops [lT 71 5 8,cL 72 F.past_copied [(.t 71)],sT 5 8 72,on (.store 1 (.t 9) (cI 0))])
 .ret)))))))))))) }
def C.past_Touched : LFunc := { np := 3,res := [.cell 6 false 1,.cell 7 false 1],keep := false,body :=
 (.seq (.ops [bX 3 4 0,bX 4 3 1,o 6 (.alloc [(.int .i64 0)]),o 7 (.alloc [(.int .i64 0)])])
 (.dfr [6,7] [o 9 (.mkfn F.past_Touched_c1 [] [(.t 6)])]
 (.f F.past_caught) [(.t 7),(.t 9)]
 (.seq (.opsP [lT 10 4 3,lT 11 3 4,cL 12 F.past_played [(.t 10),(.t 11)],mT 8 12])
 (.seq (.opsP [mT 13 2,bN 14 .geq (.t 13) (cI 0),mT 15 14,gM 16 15 true 2,gF 17 15 true 1 4,g1 18 15 true 17,gN 19 15 true 18,gB 20 15 true .lss (.t 16) (.t 19),
 pA 21 15 20,cL 22 F.past_must [(.t 21),(cI 2)]])
 (.seq (.opsP [mT 23 8,mT 24 8,mT 25 2,cL 26 F.past_player_one [(.t 24),(.t 25)],cL 27 F.past_player_object [(.t 23),(.t 26)],sT 1 6 27])
 (.seq (.opsP [l1 28 6,bN 29 .geq (.t 28) (cI 0),cL 30 F.past_must [(.t 29),(cI 5)]])
 (.seq (.ops [l1 31 6,sT 1 6 31,on (.store 1 (.t 7) (cI 0))])
 .ret))))))) }
def C.past_Writer : LFunc := { np := 4,res := [.cell 8 false 1,.cell 9 false 1],keep := false,body :=
 (.seq (.ops [bX 4 4 0,bX 5 3 1,o 8 (.alloc [(.int .i64 0)]),o 9 (.alloc [(.int .i64 0)])])
 (.dfr [8,9] [o 15 (.mkfn F.past_Writer_c1 [] [(.t 8)])]
 (.f F.past_caught) [(.t 9),(.t 15)]
 (.seq (.opsP [lT 16 4 4,lT 17 3 5,cL 18 F.past_played [(.t 16),(.t 17)],mT 10 18])
 (.seq (.opsP [mT 19 2,bN 20 .geq (.t 19) (cI 0),mT 21 20,gM 22 21 true 2,gF 23 21 true 1 5,g1 24 21 true 23,gN 25 21 true 24,gB 26 21 true .leq (.t 22) (.t 25),
 pA 27 21 26,mT 28 27,gM 29 28 true 3,gB 30 28 true .geq (.t 29) (cI 0),pA 31 28 30,cL 32 F.past_must [(.t 31),(cI 2)]])
 (.seq (.opsP [mT 33 10,mT 34 2,cL 35 F.past_player_at [(.t 33),(.t 34)],o 11 (.alloc [(.cl []),(.cl []),(.cl []),(.cl []),(.int .i64 0)]),sT 5 11 35])
 (.seq (.opsP [mT 36 3,fA 37 0 11,l1 38 37,lN 39 38,bN 40 .lss (.t 36) (.t 39),mT 41 40,gF 42 41 true 0 11,g1 43 41 true 42,gM 44 41 true 3,
 og 45 41 true (.ia 4 (.t 43) (.t 44)),gF 46 41 true 0 45,g1 47 41 true 46,gB 48 41 true .eql (.t 47) (cI 3),pA 49 41 48,cL 50 F.past_must [(.t 49),(cI 7)]])
 (.seq (.seq (.ops [mT 51 2,bN 52 .sub (.t 51) (cI 1),mT 12 52])
 (.block 0 (.loop (.seq (.seq (.ops [mT 53 12,bN 54 .geq (.t 53) (cI 0)])
 (.cond (.t 54)
 .skip
 (.exit 0)))
 (.seq (.block 1 (.seq (.opsP [mT 57 10,mT 58 12,cL 59 F.past_player_one [(.t 57),(.t 58)],
 o 13 (.alloc ([(.cl []),(.cl []),(.cl []),(.cl []),(.int .i64 0),(.cl []),(.cl []),(.cl []),(.cl []),(.int .i64 0),(.int .i64 0),(.int .i64 0),(.int .i64 0),(.int .i64 0),(.int .i64 0)])),
 sT 15 13 59])
 (.seq (.ops [fA 60 10 13,fA 61 1 60,l1 62 61,bN 63 .eql (.t 62) (cI 16),mT 64 63,gF 65 64 false 10 13,gF 66 64 false 1 65,g1 67 64 false 66,
 gB 68 64 false .eql (.t 67) (cI 18),pO 69 64 68,mT 14 69])
 (.seq (.opsP [mT 70 14,mT 71 70,gM 72 71 true 10,gT 73 71 true 15 13,gL 74 71 true F.past_player_object [(.t 72),(.t 73)],gM 75 71 true 3,
 gB 76 71 true .eql (.t 74) (.t 75),pA 77 71 76])
 (.cond (.t 77)
 (.seq (.ops [mT 78 12,sT 1 8 78,on (.store 1 (.t 9) (cI 0))])
 .ret)
 .skip)))))
 (.ops [mT 55 12,bN 56 .sub (.t 55) (cI 1),mT 12 56]))))))
 (.seq (.ops [on (.store 1 (.t 8) (cI 0)),on (.store 1 (.t 9) (cI 5))])
 .ret)))))))) }
def C.past_Sender : LFunc := { np := 3,res := [.cell 6 false 1,.cell 7 false 1],keep := false,body :=
 (.seq (.ops [bX 3 4 0,bX 4 3 1,o 6 (.alloc [(.int .i64 0)]),o 7 (.alloc [(.int .i64 0)])])
 (.dfr [6,7] [o 8 (.mkfn F.past_Sender_c1 [] [(.t 6)])]
 (.f F.past_caught) [(.t 7),(.t 8)]
 (.seq (.opsP [lT 9 4 3,lT 10 3 4,cL 11 F.past_played [(.t 9),(.t 10)],mT 12 2,cL 13 F.past_player_first [(.t 11),(.t 12),(.f F.past_Sender_c2)],sT 1 6 13,
 on (.store 1 (.t 7) (cI 0))])
 .ret))) }
def C.past_Reader : LFunc := { np := 3,res := [.cell 6 false 1,.cell 7 false 1],keep := false,body :=
 (.seq (.ops [bX 3 4 0,bX 4 3 1,o 6 (.alloc [(.int .i64 0)]),o 7 (.alloc [(.int .i64 0)])])
 (.dfr [6,7] [o 8 (.mkfn F.past_Reader_c1 [] [(.t 6)])]
 (.f F.past_caught) [(.t 7),(.t 8)]
 (.seq (.opsP [lT 9 4 3,lT 10 3 4,cL 11 F.past_played [(.t 9),(.t 10)],mT 12 2,cL 13 F.past_player_first [(.t 11),(.t 12),(.f F.past_Reader_c2)],sT 1 6 13,
 on (.store 1 (.t 7) (cI 0))])
 .ret))) }
def C.past_Born : LFunc := { np := 3,res := [.cell 6 false 1,.cell 7 false 1],keep := false,body :=
 (.seq (.ops [bX 3 4 0,bX 4 3 1,o 6 (.alloc [(.int .i64 0)]),o 7 (.alloc [(.int .i64 0)])])
 (.dfr [6,7] [o 8 (.mkfn F.past_Born_c1 [] [(.t 6)])]
 (.f F.past_caught) [(.t 7),(.t 8)]
 (.seq (.opsP [lT 9 4 3,lT 10 3 4,cL 11 F.past_played [(.t 9),(.t 10)],mT 12 2,cL 13 F.past_player_first [(.t 11),(.t 12),(.f F.past_Born_c2)],sT 1 6 13,
 on (.store 1 (.t 7) (cI 0))])
 .ret))) }
def C.past_Find : LFunc := { np := 4,res := [.cell 8 false 1,.cell 9 false 1],keep := false,body :=
 (.seq (.ops [bX 4 4 0,bX 5 3 1,bX 7 4 3,o 8 (.alloc [(.int .i64 0)]),o 9 (.alloc [(.int .i64 0)])])
 (.dfr [8,9] [o 14 (.mkfn F.past_Find_c1 [] [(.t 8)])]
 (.f F.past_caught) [(.t 9),(.t 14)]
 (.seq (.opsP [lT 15 4 4,lT 16 3 5,cL 17 F.past_played [(.t 15),(.t 16)],mT 10 17])
 (.seq (.opsP [mT 18 2,bN 19 .geq (.t 18) (cI 0),mT 20 19,gM 21 20 true 2,gF 22 20 true 1 5,g1 23 20 true 22,gN 24 20 true 23,gB 25 20 true .leq (.t 21) (.t 24),
 pA 26 20 25,cL 27 F.past_must [(.t 26),(cI 2)]])
 (.seq (.opsP [lT 28 4 7,cL 29 F.past_when [(.t 28)],o 11 (.alloc [.nili]),sT 1 11 29])
 (.seq (.seq (.ops [mT 30 10,mT 31 2,cL 32 F.past_player_worlds [(.t 30),(.t 31)]])
 (.block 0 (.rangeF (.t 32) [33,34]
 (.seq (.ops [mT 12 33])
 (.ops [o 13 (.alloc [(.cl []),(.cl []),(.cl []),(.cl []),(.int .i64 0)]),sT 5 13 34]))
 (.block 1 (.seq (.ops [l1 35 11,lT 36 5 13,
 o 37 (.call (.m [(194,F.past_cellHas_holds),(196,F.past_outsAre_holds),(197,F.past_taskEnded_holds),(198,F.past_objsAre_holds)] 35) [(.t 36)])])
 (.cond (.t 37)
 (.seq (.ops [mT 38 12,sT 1 8 38,on (.store 1 (.t 9) (cI 0))])
 .ret)
 .skip))))))
 (.seq (.ops [on (.store 1 (.t 8) (cI 0)),on (.store 1 (.t 9) (cI 5))])
 .ret))))))) }
def C.past_Begin : LFunc := { np := 3,res := [.cell 6 true 3,.cell 7 false 1],keep := false,body :=
 (.seq (.ops [bX 3 4 0,bX 4 5 1,o 6 (.alloc [(.int .i64 0),(.cl []),(.cl [])]),o 7 (.alloc [(.int .i64 0)])])
 (.dfr [6,7] [o 8 (.mkfn F.past_Begin_c1 [] [(.t 6)])]
 (.f F.past_caught) [(.t 7),(.t 8)]
 (.seq (.opsP [lT 9 4 3,lT 10 5 4,cL 11 F.mean_Check [(.t 9),(.t 10)],bN 12 .eql (.t 11) (cI 0),mT 13 12,gM 14 13 true 2,gB 15 13 true .geq (.t 14) (cI 1),pA 16 13 15,
 mT 17 16,gM 18 17 true 2,gB 19 17 true .leq (.t 18) (cI 20),pA 20 17 19,cL 21 F.past_must [(.t 20),(cI 2)]])
 (.seq (.ops [lT 23 4 3,lT 24 5 4,cL 25 F.mean_Settle [(.t 23),(.t 24)],mT 22 25,o 26 (.ext 0 (.t 22)),o 27 (.ext 1 (.t 22)),o 28 (.ext 2 (.t 22)),sT 5 4 26,sT 1 7 28])
 (.seq (.opsP [l1 29 7,bN 30 .eql (.t 29) (cI 0),l1 31 7,cL 32 F.past_must [(.t 30),(.t 31)]])
 (.seq (.ops [mT 33 2,lT 34 5 4,o 35 (.bslice 1 5 [(.cl []),(.cl []),(.cl []),(.cl []),(.int .i64 0)] [(0,(.t 34))]),
 o 36 (.build [(.int .i64 0),(.cl []),(.cl [])] [(0,1,(.t 33)),(2,1,(.t 35))]),sT 3 6 36,on (.store 1 (.t 7) (cI 0))])
 .ret)))))) }
def C.R05_Formed : LFunc := { np := 1,res := [.tmp 2],keep := false,body :=
 (.seq (.ops [bX 1 4 0,mC 2 (.bool false)])
 (.seq (.ops [fA 10 0 1,l1 11 10,lN 12 11,mT 3 12])
 (.seq (.seq (.ops [mT 13 3,bN 14 .gtr (.t 13) (cI 300),mT 15 14,gF 16 15 false 1 1,g1 17 15 false 16,gN 18 15 false 17,gM 19 15 false 3,
 gL 20 15 false F.R05_in [(.t 18),(cI 1),(.t 19)],og 21 15 false (.un .not (.t 20)),pO 22 15 21,mT 23 22,gF 24 23 false 2 1,g1 25 23 false 24,gF 26 23 false 1 1,
 g1 27 23 false 26,gN 28 23 false 27,gB 29 23 false .sub (.t 28) (cI 1),gL 30 23 false F.R05_in [(.t 25),(cI 0),(.t 29)],og 31 23 false (.un .not (.t 30)),pO 32 23 31,
 mT 33 32,gF 34 33 false 3 1,g1 35 33 false 34,gL 36 33 false F.R05_cons [(.t 35)],og 37 33 false (.un .not (.t 36)),pO 38 33 37])
 (.cond (.t 38)
 (.seq (.ops [mC 2 (.bool false)])
 .ret)
 .skip))
 (.seq (.ops [mT 39 3,o 40 (.mklen 1 [(.bool false)] (.t 39) (.t 39)),mT 4 40])
 (.seq (.seq (.ops [mC 5 (.int .i64 0)])
 (.block 0 (.loop (.seq (.seq (.ops [mT 41 5,fA 42 1 1,l1 43 42,lN 44 43,bN 45 .lss (.t 41) (.t 44)])
 (.cond (.t 45)
 .skip
 (.exit 0)))
 (.seq (.block 1 (.seq (.seq (.ops [fA 48 1 1,l1 49 48,mT 50 5,iA 51 1 49 50,l1 52 51,mT 53 3,bN 54 .sub (.t 53) (cI 1),cL 55 F.R05_in [(.t 52),(cI 0),(.t 54)],
 nT 56 55,mT 57 56,gM 58 57 false 4,gF 59 57 false 1 1,g1 60 57 false 59,gM 61 57 false 5,og 62 57 false (.ia 1 (.t 60) (.t 61)),g1 63 57 false 62,
 og 64 57 false (.ia 1 (.t 58) (.t 63)),g1 65 57 false 64,pO 66 57 65])
 (.cond (.t 66)
 (.seq (.ops [mC 2 (.bool false)])
 .ret)
 .skip))
 (.ops [mT 67 4,fA 68 1 1,l1 69 68,mT 70 5,iA 71 1 69 70,l1 72 71,iA 73 1 67 72,on (.store 1 (.t 73) (cB true))])))
 (.ops [mT 46 5,bN 47 .add (.t 46) (cI 1),mT 5 47]))))))
 (.seq (.seq (.ops [mC 6 (.int .i64 0)])
 (.block 2 (.loop (.seq (.seq (.ops [mT 74 6,mT 75 3,bN 76 .lss (.t 74) (.t 75)])
 (.cond (.t 76)
 .skip
 (.exit 2)))
 (.seq (.block 3 (.seq (.seq (.draw [lT 79 4 1,fA 80 0 1,l1 81 80,mT 82 6,iA 83 4 81 82,lT 84 4 83,cL 85 F.R05_node [(.t 79),(.t 84)],nT 86 85]
 [])
 (.cond (.t 86)
 (.seq (.ops [mC 2 (.bool false)])
 .ret)
 .skip))
 (.seq (.ops [mC 7 (.int .i64 0)])
 (.block 4 (.loop (.seq (.seq (.ops [mT 87 7,fA 88 0 1,l1 89 88,mT 90 6,iA 91 4 89 90,fA 92 2 91,l1 93 92,lN 94 93,bN 95 .lss (.t 87) (.t 94)])
 (.cond (.t 95)
 .skip
 (.exit 4)))
 (.seq (.block 5 (.seq (.ops [fA 98 0 1,l1 99 98,mT 100 6,iA 101 4 99 100,fA 102 2 101,l1 103 102,mT 104 7,iA 105 1 103 104,l1 106 105,mT 8 106])
 (.seq (.seq (.ops [mT 107 8,mT 108 6,bN 109 .add (.t 108) (cI 1),mT 110 3,bN 111 .sub (.t 110) (cI 1),cL 112 F.R05_in [(.t 107),(.t 109),(.t 111)],nT 113 112,
 mT 114 113,gM 115 114 false 4,gM 116 114 false 8,og 117 114 false (.ia 1 (.t 115) (.t 116)),g1 118 114 false 117,pO 119 114 118])
 (.cond (.t 119)
 (.seq (.ops [mC 2 (.bool false)])
 .ret)
 .skip))
 (.ops [mT 120 4,mT 121 8,iA 122 1 120 121,on (.store 1 (.t 122) (cB true))]))))
 (.ops [mT 96 7,bN 97 .add (.t 96) (cI 1),mT 7 97]))))))))
 (.ops [mT 77 6,bN 78 .add (.t 77) (cI 1),mT 6 78]))))))
 (.seq (.seq (.ops [mC 9 (.int .i64 0)])
 (.block 6 (.loop (.seq (.seq (.ops [mT 123 9,mT 124 3,bN 125 .lss (.t 123) (.t 124)])
 (.cond (.t 125)
 .skip
 (.exit 6)))
 (.seq (.block 7 (.seq (.ops [mT 128 4,mT 129 9,iA 130 1 128 129,l1 131 130,nT 132 131])
 (.cond (.t 132)
 (.seq (.ops [mC 2 (.bool false)])
 .ret)
 .skip)))
 (.ops [mT 126 9,bN 127 .add (.t 126) (cI 1),mT 9 127]))))))
 (.seq (.ops [mC 2 (.bool true)])
 .ret)))))))) }
def C.R06_World : LFunc := { np := 2,res := [.tmp 4],keep := false,body :=
 (.seq (.ops [bX 2 4 0,bX 3 5 1,mC 4 (.bool false)])
 (.seq (.seq (.ops [fA 7 0 3,l1 8 7,lN 9 8,bN 10 .gtr (.t 9) (cI 120),mT 11 10,gF 12 11 false 2 3,g1 13 11 false 12,gN 14 11 false 13,
 gB 15 11 false .gtr (.t 14) (cI 100),pO 16 11 15,mT 17 16,gF 18 17 false 3 3,g1 19 17 false 18,gL 20 17 false F.R06_Ints [(.t 19),(cI 50)],
 og 21 17 false (.un .not (.t 20)),pO 22 17 21,mT 23 22,gF 24 23 false 4 3,g1 25 23 false 24,gL 26 23 false F.R06_in [(.t 25),(cI 0),(cI 1000000000)],
 og 27 23 false (.un .not (.t 26)),pO 28 23 27,mT 29 28,gT 30 29 false 5 3,gL 31 29 false F.R06_tasks [(.t 30)],og 32 29 false (.un .not (.t 31)),pO 33 29 32])
 (.cond (.t 33)
 (.seq (.ops [mC 4 (.bool false)])
 .ret)
 .skip))
 (.seq (.seq (.ops [mC 5 (.int .i64 0)])
 (.block 0 (.loop (.seq (.seq (.ops [mT 34 5,fA 35 0 3,l1 36 35,lN 37 36,bN 38 .lss (.t 34) (.t 37)])
 (.cond (.t 38)
 .skip
 (.exit 0)))
 (.seq (.block 1 (.seq (.draw [lT 41 4 2,lT 42 5 3,fA 43 0 3,l1 44 43,mT 45 5,iA 46 4 44 45,lT 47 4 46,cL 48 F.R06_object [(.t 41),(.t 42),(.t 47)],nT 49 48]
 [])
 (.cond (.t 49)
 (.seq (.ops [mC 4 (.bool false)])
 .ret)
 .skip)))
 (.ops [mT 39 5,bN 40 .add (.t 39) (cI 1),mT 5 40]))))))
 (.seq (.seq (.ops [mC 6 (.int .i64 0)])
 (.block 2 (.loop (.seq (.seq (.ops [mT 50 6,fA 51 2 3,l1 52 51,lN 53 52,bN 54 .lss (.t 50) (.t 53)])
 (.cond (.t 54)
 .skip
 (.exit 2)))
 (.seq (.block 3 (.seq (.ops [fA 57 2 3,l1 58 57,mT 59 6,iA 60 2 58 59,fA 61 0 60,l1 62 61,cL 63 F.R06_in [(.t 62),(cI 0),(cI 3)],nT 64 63,mT 65 64,gF 66 65 false 2 3,
 g1 67 65 false 66,gM 68 65 false 6,og 69 65 false (.ia 2 (.t 67) (.t 68)),gF 70 65 false 1 69,g1 71 65 false 70,
 gL 72 65 false F.R06_in [(.t 71),(cI (-1000000000)),(cI 1000000000)],og 73 65 false (.un .not (.t 72)),pO 74 65 73])
 (.cond (.t 74)
 (.seq (.ops [mC 4 (.bool false)])
 .ret)
 .skip)))
 (.ops [mT 55 6,bN 56 .add (.t 55) (cI 1),mT 6 56]))))))
 (.seq (.ops [mC 4 (.bool true)])
 .ret))))) }
def C.past_Check : LFunc := { np := 2,res := [.tmp 4],keep := false,body :=
 (.seq (.ops [bX 2 4 0,bX 3 3 1,mC 4 (.int .i64 0)])
 (.seq (.seq (.draw [fA 7 0 3,l1 8 7,bN 9 .lss (.t 8) (cI 1),mT 10 9,gF 11 10 false 0 3,g1 12 10 false 11,gB 13 10 false .gtr (.t 12) (cI 20),pO 14 10 13,mT 15 14,
 gF 16 15 false 1 3,g1 17 15 false 16,gN 18 15 false 17,gB 19 15 false .gtr (.t 18) (cI 200),pO 20 15 19,mT 21 20,gF 22 21 false 2 3,g1 23 21 false 22,
 gN 24 21 false 23,gF 25 21 false 1 3,g1 26 21 false 25,gN 27 21 false 26,gF 28 21 false 0 3,g1 29 21 false 28,gB 30 21 false .quo (.t 27) (.t 29),
 gB 31 21 false .add (.t 30) (cI 1),gB 32 21 false .neq (.t 24) (.t 31),pO 33 21 32]
 [])
 (.cond (.t 33)
 (.seq (.ops [mC 4 (.int .i64 2)])
 .ret)
 .skip))
 (.seq (.seq (.ops [fA 34 2 3,l1 35 34,lN 36 35,mC 37 (.int .i64 0)])
 (.block 0 (.loop (.seq (.ops [bN 38 .lss (.t 37) (.t 36)])
 (.seq (.cond (.t 38)
 .skip
 (.exit 0))
 (.seq (.block 1 (.seq (.ops [iA 39 5 35 37,lT 40 5 39,o 6 (.alloc [(.cl []),(.cl []),(.cl []),(.cl []),(.int .i64 0)]),sT 5 6 40])
 (.seq (.ops [lT 41 4 2,lT 42 5 6,cL 43 F.mean_Check [(.t 41),(.t 42)],bN 44 .neq (.t 43) (cI 0)])
 (.cond (.t 44)
 (.seq (.ops [mC 4 (.int .i64 2)])
 .ret)
 .skip))))
 (.ops [bN 45 .add (.t 37) (cI 1),mT 37 45])))))))
 (.seq (.ops [mC 4 (.int .i64 0)])
 .ret)))) }
def C.past_Add : LFunc := { np := 3,res := [.cell 6 true 3,.cell 7 true 5,.cell 8 false 1],keep := false,body :=
 (.seq (.ops [bX 3 4 0,bX 4 3 1,o 6 (.alloc [(.int .i64 0),(.cl []),(.cl [])]),o 7 (.alloc [(.int .i64 0),(.int .i64 0),(.int .i64 0),(.int .i64 0),(.int .i64 0)]),
 o 8 (.alloc [(.int .i64 0)])])
 (.dfr [6,7,8] [o 12 (.mkfn F.past_Add_c1 [] [(.t 6),(.t 7)])]
 (.f F.past_caught) [(.t 8),(.t 12)]
 (.seq (.opsP [lT 13 4 3,lT 14 3 4,cL 15 F.past_played [(.t 13),(.t 14)],mT 9 15])
 (.seq (.ops [fA 16 1 4,l1 17 16,lN 18 17,mT 10 18])
 (.seq (.opsP [mT 19 10,bN 20 .lss (.t 19) (cI 200),cL 21 F.past_must [(.t 20),(cI 3)]])
 (.seq (.opsP [mT 23 9,mT 24 9,mT 25 10,cL 26 F.past_player_at [(.t 24),(.t 25)],mT 27 2,cL 28 F.past_player_turn [(.t 23),(.t 26),(.t 27)],mT 22 28,
 o 29 (.ext 0 (.t 22)),o 30 (.ext 1 (.t 22)),o 11 (.alloc [(.cl []),(.cl []),(.cl []),(.cl []),(.int .i64 0)]),sT 5 11 29,sT 5 7 30])
 (.seq (.ops [lT 31 3 4,o 32 (.icall (.f F.past_copies) [(.t 31)]),sT 3 6 32])
 (.seq (.ops [fA 33 1 6,l1 34 33,mT 35 2,o 36 (.bslice 1 1 [(.int .i64 0)] [(0,(.t 35))]),o 37 (.append 1 (.t 34) (.t 36)),fA 38 1 6,sT 1 38 37])
 (.seq (.seq (.ops [mT 39 9,mT 40 10,bN 41 .add (.t 40) (cI 1),cL 42 F.past_player_marked [(.t 39),(.t 41)]])
 (.cond (.t 42)
 (.ops [fA 43 2 6,l1 44 43,lT 45 5 11,o 46 (.bslice 1 5 [(.cl []),(.cl []),(.cl []),(.cl []),(.int .i64 0)] [(0,(.t 45))]),o 47 (.append 5 (.t 44) (.t 46)),fA 48 2 6,
 sT 1 48 47])
 .skip))
 (.seq (.draw [lT 49 3 6,lT 50 5 7,sT 3 6 49,sT 5 7 50,on (.store 1 (.t 8) (cI 0))]
 [(1,2)])
 .ret)))))))))) }
def C.W23_P : LFunc := { np := 0,res := [.cell 0 true 4],keep := false,body :=
 (.seq (.ops [o 0 (.alloc [(.cl []),(.cl []),(.int .i64 0),(.cl [])])])
 (.seq (.ops [cL 6 F.R02_ParseModule [(.c (.str ⟨#[109,111,100,117,108,101,32,97,32,123,32,102,117,110,32,109,97,105,110,40,117,32,58,32,117,110,105,116,41,32,58,32,105,110,116,32,61,32,108,101,116,32,99,32,61,32,99,101,108,108,40,49,41,32,105,110,32,108,101,116,32,120,32,61,32,111,117,116,40,48,44,32,103,101,116,40,99,41,41,32,105,110,32,108,101,116,32,121,32,61,32,112,117,116,40,99,44,32,105,110,112,117,116,41,32,105,110,32,103,101,116,40,99,41,32,43,32,49,59,32,125]⟩))],
 mT 5 6,o 7 (.ext 0 (.t 5)),o 8 (.ext 1 (.t 5)),o 1 (.alloc [(.str ⟨#[]⟩),(.cl []),(.cl [])]),sT 3 1 7,mT 2 8])
 (.seq (.ops [lT 10 3 1,cL 11 F.R05_Bind [(.t 10)],mT 9 11,o 12 (.ext 0 (.t 9)),o 13 (.ext 1 (.t 9)),o 3 (.alloc [(.cl []),(.cl []),(.int .i64 0),(.cl [])]),sT 4 3 12,
 mT 4 13])
 (.seq (.ops [lT 14 4 3,sT 4 0 14])
 .ret)))) }
def C.W23_A : LFunc := { np := 0,res := [.cell 0 true 3],keep := false,body :=
 (.seq (.ops [o 0 (.alloc [(.int .i64 0),(.cl []),(.cl [])])])
 (.seq (.ops [cL 7 F.W23_P [],o 8 (.bslice 2 1 [(.int .i64 0)] [(0,(cI 7)),(1,(cI 8))]),cL 9 F.R06_Start [(.t 7),(.t 8)],mT 6 9,o 10 (.ext 0 (.t 6)),
 o 11 (.ext 1 (.t 6)),o 1 (.alloc [(.cl []),(.cl []),(.cl []),(.cl []),(.int .i64 0)]),sT 5 1 10,mT 2 11])
 (.seq (.draw [cL 13 F.W23_P [],lT 14 5 1,cL 15 F.past_Begin [(.t 13),(.t 14),(cI 3)],mT 12 15,o 16 (.ext 0 (.t 12)),o 17 (.ext 1 (.t 12)),
 o 3 (.alloc [(.int .i64 0),(.cl []),(.cl [])]),sT 3 3 16,mT 4 17]
 [(0,1),(0,6),(1,6),(2,6)])
 (.seq (.seq (.ops [mC 5 (.int .i64 0)])
 (.block 0 (.loop (.seq (.seq (.ops [mT 18 5,bN 19 .lss (.t 18) (cI 7)])
 (.cond (.t 19)
 .skip
 (.exit 0)))
 (.seq (.block 1 (.draw [cL 23 F.W23_P [],lT 24 3 3,cL 25 F.past_Add [(.t 23),(.t 24),(cI 0)],mT 22 25,o 26 (.ext 0 (.t 22)),o 27 (.ext 1 (.t 22)),
 o 28 (.ext 2 (.t 22)),sT 3 3 26]
 [(0,1)]))
 (.ops [mT 20 5,bN 21 .add (.t 20) (cI 1),mT 5 21]))))))
 (.seq (.ops [lT 29 3 3,sT 3 0 29])
 .ret))))) }
def C.R06_Int : LFunc := { np := 1,res := [.cell 2 true 2],keep := false,body :=
 (.seq (.ops [o 2 (.alloc [(.int .i64 0),(.int .i64 0)])])
 (.seq (.ops [mT 3 0,o 4 (.build [(.int .i64 0),(.int .i64 0)] [(0,1,(cI 1)),(1,1,(.t 3))]),sT 2 2 4])
 .ret)) }
def C.past_caught : LFunc := { np := 2,res := [],keep := false,body :=
 (.rcv (some 7) []
 (.block 0 (.seq (.ops [o 9 (.bin .eql .iface (.t 7) (.c .nili))])
 (.cond (.t 9)
 (.ops [mT 4 7])
 (.seq (.ops [o 10 (.assert 167 (.agg [(.int .i64 0)]) true (.t 7)),o 11 (.ext 1 (.t 10)),o 12 (.ext 0 (.t 10))])
 (.cond (.t 11)
 (.seq (.ops [o 5 (.alloc [(.int .i64 0)]),sT 1 5 12])
 (.seq (.ops [mT 13 1,o 14 (.icall (.t 13) [])])
 (.ops [mT 15 0,fA 16 0 5,l1 17 16,nK 18 15,sT 1 18 17])))
 (.seq (.ops [mT 6 7])
 (.opsP [mT 8 6,on (.panic (.t 8))])))))))) }
def C.past_played : LFunc := { np := 2,res := [.tmp 4],keep := false,body :=
 (.seq (.ops [bX 2 4 0,bX 3 3 1,mC 4 .nilp])
 (.seq (.opsP [lT 5 4 2,lT 6 3 3,cL 7 F.past_Check [(.t 5),(.t 6)],bN 8 .eql (.t 7) (cI 0),cL 9 F.past_must [(.t 8),(cI 2)]])
 (.seq (.ops [lT 10 3 3,lT 11 4 2,o 12 (.build [(.int .i64 0),(.cl []),(.cl []),(.cl []),(.cl []),(.int .i64 0),(.cl [])] [(0,3,(.t 10)),(3,4,(.t 11))]),bX 13 7 12,
 mT 4 13])
 .ret))) }
def C.past_player_wrong : LFunc := { np := 1,res := [.cell 2 false 1],keep := false,body :=
 (.seq (.ops [bX 1 1 0,o 2 (.alloc [(.int .i64 0)])])
 (.seq (.ops [o 3 (.alloc [(.int .i64 0)])])
 (.dfr [2] []
 (.f F.past_caught) [(.t 3),(.f F.past_player_wrong_c1)]
 (.seq (.seq (.draw [l1 10 1,nK 11 10,fA 12 3 11,lT 13 4 12,l1 14 1,nK 15 14,fA 16 0 15,fA 17 2 16,l1 18 17,o 19 (.ia 5 (.t 18) (cI 0)),lT 20 5 19,
 cL 21 F.mean_Settle [(.t 13),(.t 20)],mT 9 21,o 22 (.ext 0 (.t 9)),o 23 (.ext 1 (.t 9)),o 24 (.ext 2 (.t 9)),
 o 4 (.alloc [(.cl []),(.cl []),(.cl []),(.cl []),(.int .i64 0)]),sT 5 4 22,mT 5 23,mT 6 24]
 [(0,16),(3,16),(4,16),(8,16),(9,16),(10,16),(11,16)])
 (.seq (.ops [mT 25 6,bN 26 .neq (.t 25) (cI 0),mT 27 26,gM 28 27 false 5,gB 29 27 false .gtr (.t 28) (cI 0),pO 30 27 29])
 (.cond (.t 30)
 (.seq (.ops [on (.store 1 (.t 2) (cI 0))])
 .ret)
 .skip)))
 (.seq (.ops [on (.store 1 (.t 2) (cI 1))])
 (.seq (.seq (.draw [l1 31 1,l1 32 1,nK 33 32,fA 34 0 33,fA 35 1 34,l1 36 35,lN 37 36,cL 38 F.past_player_turns [(.t 31),(cI 0),(.t 37)]]
 [])
 (.block 0 (.rangeF (.t 38) [39,40]
 (.seq (.ops [mT 7 39])
 (.ops [o 8 (.alloc ([(.cl []),(.cl []),(.cl []),(.cl []),(.int .i64 0),(.cl []),(.cl []),(.cl []),(.cl []),(.int .i64 0),(.int .i64 0),(.int .i64 0),(.int .i64 0),(.int .i64 0),(.int .i64 0)])),
 sT 15 8 40]))
 (.block 1 (.seq (.ops [mT 41 7,bN 42 .add (.t 41) (cI 1),sT 1 2 42])
 (.seq (.seq (.draw [l1 43 1,l1 44 2,cL 45 F.past_player_marked [(.t 43),(.t 44)],mT 46 45,gF 47 46 true 5 8,gT 48 46 true 5 47,g1 49 46 true 1,
 og 50 46 true (.nilck (.t 49)),gF 51 46 true 0 50,gF 52 46 true 2 51,g1 53 46 true 52,g1 54 46 true 2,g1 55 46 true 1,og 56 46 true (.nilck (.t 55)),
 gF 57 46 true 0 56,gF 58 46 true 0 57,g1 59 46 true 58,gB 60 46 true .quo (.t 54) (.t 59),og 61 46 true (.ia 5 (.t 53) (.t 60)),gT 62 46 true 5 61,
 gL 63 46 true F.past_same [(.t 48),(.t 62)],og 64 46 true (.un .not (.t 63)),pA 65 46 64]
 [])
 (.cond (.t 65)
 (.seq (.ops [l1 66 2,sT 1 2 66])
 .ret)
 .skip))
 (.ops [l1 67 2,bN 68 .add (.t 67) (cI 1),sT 1 2 68])))))))
 (.seq (.ops [on (.store 1 (.t 2) (cI (-1)))])
 .ret))))))) }
def C.R23_in : LFunc := { np := 3,res := [.tmp 6],keep := false,body :=
 (.seq (.ops [mC 6 (.bool false)])
 (.seq (.ops [mT 7 0,mT 8 1,bN 9 .geq (.t 7) (.t 8),mT 10 9,gM 11 10 true 0,gM 12 10 true 2,gB 13 10 true .leq (.t 11) (.t 12),pA 14 10 13,mT 6 14])
 .ret)) }
def C.R06_Settle : LFunc := { np := 3,res := [.cell 6 true 5,.tmp 7,.tmp 8],keep := false,body :=
 (.seq (.ops [bX 3 4 0,bX 4 5 1,o 6 (.alloc [(.cl []),(.cl []),(.cl []),(.cl []),(.int .i64 0)]),mC 7 (.int .i64 0),mC 8 (.bool false)])
 (.seq (.seq (.ops [mC 9 (.int .i64 0)])
 (.block 0 (.loop (.seq (.seq (.ops [mT 11 9,fA 12 1 4,l1 13 12,lN 14 13,bN 15 .lss (.t 11) (.t 14)])
 (.cond (.t 15)
 .skip
 (.exit 0)))
 (.seq (.block 1 (.seq (.ops [lT 18 4 3,lT 19 5 4,mT 20 9,cL 21 F.R06_Step [(.t 18),(.t 19),(.t 20)],
 o 10 (.alloc ([(.cl []),(.cl []),(.cl []),(.cl []),(.int .i64 0),(.int .i64 0),(.int .i64 0),(.int .i64 0),(.int .i64 0),(.int .i64 0),(.int .i64 0)])),sT 11 10 21])
 (.block 2 (.loop (.seq (.seq (.ops [fA 22 5 10,l1 23 22,bN 24 .eql (.t 23) (cI 0)])
 (.cond (.t 24)
 .skip
 (.exit 2)))
 (.block 3 (.seq (.ops [mT 25 2,bN 26 .add (.t 25) (cI 1),mT 2 26])
 (.seq (.seq (.ops [mT 27 2,bN 28 .gtr (.t 27) (cI 5000)])
 (.cond (.t 28)
 (.seq (.ops [lT 29 5 4,mT 30 2,sT 5 6 29,mT 7 30,mC 8 (.bool false)])
 .ret)
 .skip))
 (.seq (.ops [fA 31 0 10,lT 32 5 31,sT 5 4 32])
 (.ops [lT 33 4 3,lT 34 5 4,mT 35 9,cL 36 F.R06_Step [(.t 33),(.t 34),(.t 35)],sT 11 10 36]))))))))))
 (.ops [mT 16 9,bN 17 .add (.t 16) (cI 1),mT 9 17]))))))
 (.seq (.ops [lT 37 5 4,mT 38 2,sT 5 6 37,mT 7 38,mC 8 (.bool true)])
 .ret))) }
def C.past_must : LFunc := { np := 2,res := [],keep := false,body :=
 (.seq (.ops [mT 4 0,nT 5 4])
 (.cond (.t 5)
 (.opsP [mT 6 1,o 7 (.build [(.int .i64 0)] [(0,1,(.t 6))]),o 8 (.iface 167 (.t 7)),on (.panic (.t 8))])
 .skip)) }
def C.past_copied : LFunc := { np := 1,res := [.cell 2 true 5],keep := false,body :=
 (.seq (.ops [bX 1 5 0,o 2 (.alloc [(.cl []),(.cl []),(.cl []),(.cl []),(.int .i64 0)])])
 (.seq (.draw [fA 9 1 1,l1 10 9,cL 11 F.slices_Clone_s_int_int [(.t 10)],fA 12 2 1,l1 13 12,cL 14 F.slices_Clone_s_api_MeanOut_api_MeanOut [(.t 13)],fA 15 3 1,l1 16 15,
 cL 17 F.slices_Clone_s_int_int [(.t 16)],fA 18 4 1,l1 19 18,
 o 20 (.build [(.cl []),(.cl []),(.cl []),(.cl []),(.int .i64 0)] [(1,1,(.t 11)),(2,1,(.t 14)),(3,1,(.t 17)),(4,1,(.t 19))]),
 o 3 (.alloc [(.cl []),(.cl []),(.cl []),(.cl []),(.int .i64 0)]),sT 5 3 20]
 [(2,4),(2,7),(5,7),(2,10),(5,10),(8,10),(1,12),(2,12),(4,12),(5,12),(7,12),(8,12),(10,12)])
 (.seq (.seq (.ops [fA 21 0 1,l1 22 21,lN 23 22,mC 24 (.int .i64 0)])
 (.block 0 (.loop (.seq (.ops [bN 25 .lss (.t 24) (.t 23)])
 (.seq (.cond (.t 25)
 .skip
 (.exit 0))
 (.seq (.block 1 (.seq (.ops [iA 26 4 22 24,lT 27 4 26,o 5 (.alloc [(.int .i64 0),(.int .i64 0),(.cl []),(.cl [])]),sT 4 5 27])
 (.seq (.draw [fA 28 0 5,l1 29 28,fA 30 1 5,l1 31 30,fA 32 2 5,l1 33 32,cL 34 F.slices_Clone_s_api_MeanVal_api_MeanVal [(.t 33)],
 o 35 (.build [(.int .i64 0),(.int .i64 0),(.cl []),(.cl [])] [(0,1,(.t 29)),(1,1,(.t 31)),(2,1,(.t 34))]),o 6 (.alloc [(.int .i64 0),(.int .i64 0),(.cl []),(.cl [])]),
 sT 4 6 35]
 [(1,6),(3,6),(1,8),(3,8),(5,8),(6,8)])
 (.seq (.seq (.ops [fA 36 3 5,l1 37 36,lN 38 37,mC 39 (.int .i64 0)])
 (.block 2 (.loop (.seq (.ops [bN 40 .lss (.t 39) (.t 38)])
 (.seq (.cond (.t 40)
 .skip
 (.exit 2))
 (.seq (.block 3 (.seq (.ops [iA 41 3 37 39,lT 42 3 41,o 8 (.alloc [(.int .i64 0),(.cl []),(.cl [])]),sT 3 8 42])
 (.draw [fA 43 3 6,l1 44 43,fA 45 0 8,l1 46 45,fA 47 1 8,l1 48 47,cL 49 F.slices_Clone_s_api_MeanVal_api_MeanVal [(.t 48)],fA 50 2 8,l1 51 50,
 cL 52 F.slices_Clone_s_api_MeanVal_api_MeanVal [(.t 51)],o 53 (.build [(.int .i64 0),(.cl []),(.cl [])] [(0,1,(.t 46)),(1,1,(.t 49)),(2,1,(.t 52))]),
 o 54 (.bslice 1 3 [(.int .i64 0),(.cl []),(.cl [])] [(0,(.t 53))]),o 55 (.append 3 (.t 44) (.t 54)),fA 56 3 6,sT 1 56 55]
 [(1,6),(3,6),(6,8),(1,9),(3,9),(1,11)])))
 (.ops [bN 57 .add (.t 39) (cI 1),mT 39 57])))))))
 (.ops [fA 58 0 3,l1 59 58,lT 60 4 6,o 61 (.bslice 1 4 [(.int .i64 0),(.int .i64 0),(.cl []),(.cl [])] [(0,(.t 60))]),o 62 (.append 4 (.t 59) (.t 61)),fA 63 0 3,
 sT 1 63 62])))))
 (.ops [bN 64 .add (.t 24) (cI 1),mT 24 64])))))))
 (.seq (.ops [lT 65 5 3,sT 5 2 65])
 .ret)))) }
def C.past_player_at : LFunc := { np := 2,res := [.cell 4 true 5],keep := false,body :=
 (.seq (.ops [o 4 (.alloc [(.cl []),(.cl []),(.cl []),(.cl []),(.int .i64 0)])])
 (.seq (.draw [mT 9 1,mT 10 0,nK 11 10,fA 12 0 11,fA 13 0 12,l1 14 13,bN 15 .quo (.t 9) (.t 14),mT 16 0,nK 17 16,fA 18 0 17,fA 19 0 18,l1 20 19,
 bN 21 .mul (.t 15) (.t 20),mT 5 21]
 [])
 (.seq (.draw [mT 22 0,nK 23 22,fA 24 0 23,fA 25 2 24,l1 26 25,mT 27 1,mT 28 0,nK 29 28,fA 30 0 29,fA 31 0 30,l1 32 31,bN 33 .quo (.t 27) (.t 32),iA 34 5 26 33,
 lT 35 5 34,o 6 (.alloc [(.cl []),(.cl []),(.cl []),(.cl []),(.int .i64 0)]),sT 5 6 35]
 [(4,14),(10,14),(12,14),(13,14)])
 (.seq (.seq (.ops [mT 36 0,mT 37 5,mT 38 1,cL 39 F.past_player_turns [(.t 36),(.t 37),(.t 38)]])
 (.block 0 (.rangeF (.t 39) [40,41]
 (.ops [o 8 (.alloc ([(.cl []),(.cl []),(.cl []),(.cl []),(.int .i64 0),(.cl []),(.cl []),(.cl []),(.cl []),(.int .i64 0),(.int .i64 0),(.int .i64 0),(.int .i64 0),(.int .i64 0),(.int .i64 0)])),
 sT 15 8 41])
 (.block 1 (.ops [fA 42 5 8,lT 43 5 42,sT 5 6 43])))))
 (.seq (.ops [lT 44 5 6,sT 5 4 44])
 .ret))))) }
def C.past_player_turns : LFunc := { np := 3,res := [.tmp 6],keep := false,body :=
 (.seq (.ops [bX 3 1 0,bX 4 1 1,bX 5 1 2,mC 6 .nilf])
 (.seq (.ops [o 7 (.mkfn F.past_player_turns_c1 [] [(.t 4),(.t 5),(.t 3)]),mT 6 7])
 .ret)) }
def C.past_Inside_c1 : LFunc := { np := 1,res := [],keep := false,body :=
 (.ops [o 1 (.build [(.cl []),(.cl []),(.cl []),(.cl []),(.int .i64 0)] []),sT 5 0 1]) }
def C.past_player_one : LFunc := { np := 2,res := [.cell 4 true 15],keep := false,body :=
 (.seq (.ops [o 4 (.alloc ([(.cl []),(.cl []),(.cl []),(.cl []),(.int .i64 0),(.cl []),(.cl []),(.cl []),(.cl []),(.int .i64 0),(.int .i64 0),(.int .i64 0),(.int .i64 0),(.int .i64 0),(.int .i64 0)]))])
 (.seq (.opsP [mT 8 0,mT 9 1,cL 10 F.past_player_at [(.t 8),(.t 9)],o 5 (.alloc [(.cl []),(.cl []),(.cl []),(.cl []),(.int .i64 0)]),sT 5 5 10])
 (.seq (.drawP [mT 12 0,lT 13 5 5,mT 14 0,nK 15 14,fA 16 0 15,fA 17 1 16,l1 18 17,mT 19 1,iA 20 1 18 19,l1 21 20,cL 22 F.past_player_turn [(.t 12),(.t 13),(.t 21)],
 mT 11 22,o 23 (.ext 0 (.t 11)),o 24 (.ext 1 (.t 11)),o 6 (.alloc [(.cl []),(.cl []),(.cl []),(.cl []),(.int .i64 0)]),
 o 7 (.alloc [(.int .i64 0),(.int .i64 0),(.int .i64 0),(.int .i64 0),(.int .i64 0)]),sT 5 6 23,sT 5 7 24]
 [[],[],[],[2],[3,2],[4,3,2],[5,4,3,2],[],[6,7,5,4,3,2],[8,6,7,5,4,3,2],[0,1,9,8,6,7,5,4,3,2],[10,0,1,9,8,6,7,5,4,3,2],[11,10,0,1,9,8,6,7,5,4,3,2],[11,10,0,1,9,8,6,7,5,4,3,2],[],[],[14,12,10,0,1,2,3,4,5,6,7,8,9,11,15],[15,13,16,0,1,2,3,4,5,6,7,8,9,10,11,12,14]]
 [(1,14),(6,14),(8,14),(9,14),(10,14),(1,15),(6,15),(8,15),(9,15),(10,15),(14,15)])
 (.seq (.ops [lT 25 5 5,lT 26 5 6,lT 27 5 7,
 o 28 (.build ([(.cl []),(.cl []),(.cl []),(.cl []),(.int .i64 0),(.cl []),(.cl []),(.cl []),(.cl []),(.int .i64 0),(.int .i64 0),(.int .i64 0),(.int .i64 0),(.int .i64 0),(.int .i64 0)]) [(0,5,(.t 25)),(5,5,(.t 26)),(10,5,(.t 27))]),
 sT 15 4 28])
 .ret)))) }
def C.past_player_plain : LFunc := { np := 3,res := [.cell 6 true 5,.tmp 7],keep := false,body :=
 (.seq (.ops [bX 4 5 1,o 6 (.alloc [(.cl []),(.cl []),(.cl []),(.cl []),(.int .i64 0)]),mC 7 (.int .i64 0)])
 (.seq (.ops [mC 8 (.int .i64 0)])
 (.seq .skip
 (.seq (.block 0 (.loop (.seq (.seq (.ops [mT 12 8,fA 13 1 4,l1 14 13,lN 15 14,bN 16 .lss (.t 12) (.t 15)])
 (.cond (.t 16)
 .skip
 (.exit 0)))
 (.block 1 (.seq (.draw [mT 18 0,nK 19 18,fA 20 3 19,lT 21 4 20,lT 22 5 4,mT 23 8,cL 24 F.mean_Step [(.t 21),(.t 22),(.t 23)],mT 17 24,o 25 (.ext 0 (.t 17)),
 o 26 (.ext 1 (.t 17)),o 27 (.ext 2 (.t 17)),o 9 (.alloc [(.cl []),(.cl []),(.cl []),(.cl []),(.int .i64 0)]),
 o 10 (.alloc [(.int .i64 0),(.int .i64 0),(.int .i64 0),(.int .i64 0),(.int .i64 0)]),sT 5 9 25,sT 5 10 26,mT 11 27]
 [(3,11),(4,11),(6,11),(3,12),(4,12),(6,12),(11,12)])
 (.seq (.block 2 (.seq (.ops [mT 29 11,bN 30 .neq (.t 29) (cI 0),mT 31 30,gT 32 31 false 5 10,
 og 33 31 false (.build [(.int .i64 0),(.int .i64 0),(.int .i64 0),(.int .i64 0),(.int .i64 0)] []),
 og 34 31 false (.bin .neq (.agg [.num,.num,.num,.num,.num]) (.t 32) (.t 33)),pO 35 31 34,mT 28 35])
 (.cond (.t 28)
 (.seq (.ops [mT 36 8,bN 37 .add (.t 36) (cI 1),mT 8 37])
 (.exit 1))
 (.seq (.ops [mT 39 2,bN 40 .eql (.t 39) (cI 0),mT 38 40])
 (.cond (.t 38)
 (.exit 0)
 .skip)))))
 (.seq (.ops [lT 41 5 9,sT 5 4 41])
 (.ops [mT 42 2,bN 43 .sub (.t 42) (cI 1),mT 2 43]))))))))
 (.seq (.ops [lT 44 5 4,mT 45 2,sT 5 6 44,mT 7 45])
 .ret))))) }
def C.mean_Step : LFunc := { np := 3,res := [.cell 6 true 5,.cell 7 true 5,.tmp 8],keep := false,body :=
 (.seq (.ops [bX 3 4 0,bX 4 5 1,o 6 (.alloc [(.cl []),(.cl []),(.cl []),(.cl []),(.int .i64 0)]),
 o 7 (.alloc [(.int .i64 0),(.int .i64 0),(.int .i64 0),(.int .i64 0),(.int .i64 0)]),mC 8 (.int .i64 0)])
 (.seq (.ops [lT 13 4 3,lT 14 5 4,o 15 (.icall (.f F.mean_running) [(.t 13),(.t 14)]),mT 12 15,o 16 (.ext 0 (.t 12)),o 17 (.ext 1 (.t 12)),mT 9 16,mT 10 17])
 (.seq (.seq (.ops [mT 18 10,nT 19 18,mT 20 19,gM 21 20 false 2,gF 22 20 false 1 4,g1 23 20 false 22,gN 24 20 false 23,gB 25 20 false .sub (.t 24) (cI 1),
 gL 26 20 false F.mean_within [(.t 21),(cI 0),(.t 25)],og 27 20 false (.un .not (.t 26)),pO 28 20 27])
 (.cond (.t 28)
 (.seq (.ops [o 29 (.build [(.cl []),(.cl []),(.cl []),(.cl []),(.int .i64 0)] []),
 o 30 (.build [(.int .i64 0),(.int .i64 0),(.int .i64 0),(.int .i64 0),(.int .i64 0)] []),sT 5 6 29,sT 5 7 30,mC 8 (.int .i64 2)])
 .ret)
 .skip))
 (.seq (.ops [mT 31 9,mT 32 2,o 33 (.icall (.f F.mean_runner_step) [(.t 31),(.t 32)]),mT 11 33])
 (.seq (.seq (.ops [mT 34 11,cL 35 F.mean_rank [(.t 34)],bN 36 .eql (.t 35) (cI 2)])
 (.cond (.t 36)
 (.seq (.ops [o 37 (.build [(.cl []),(.cl []),(.cl []),(.cl []),(.int .i64 0)] []),
 o 38 (.build [(.int .i64 0),(.int .i64 0),(.int .i64 0),(.int .i64 0),(.int .i64 0)] []),sT 5 6 37,sT 5 7 38,mC 8 (.int .i64 5)])
 .ret)
 .skip))
 (.seq (.ops [mT 39 9,cL 40 F.mean_runner_copied [(.t 39)],mT 41 11,
 o 42 (.call (.m [(244,F.mean_waits_event),(247,F.mean_does_event),(249,F.mean_failed_event),(255,F.mean_plain_event)] 41) []),sT 5 6 40,sT 5 7 42,mC 8 (.int .i64 0)])
 .ret)))))) }
def C.R06_Step : LFunc := { np := 3,res := [.cell 6 true 11],keep := false,body :=
 (.seq (.ops [bX 3 4 0,bX 4 5 1,
 o 6 (.alloc ([(.cl []),(.cl []),(.cl []),(.cl []),(.int .i64 0),(.int .i64 0),(.int .i64 0),(.int .i64 0),(.int .i64 0),(.int .i64 0),(.int .i64 0)]))])
 (.seq (.draw [fA 14 0 4,l1 15 14,fA 16 1 4,l1 17 16,mT 18 2,iA 19 1 17 18,l1 20 19,iA 21 4 15 20,lT 22 4 21,
 o 7 (.alloc [(.int .i64 0),(.int .i64 0),(.cl []),(.cl [])]),sT 4 7 22]
 [(1,9),(3,9),(5,9),(6,9),(7,9),(8,9)])
 (.seq (.seq (.ops [fA 23 1 7,l1 24 23,bN 25 .neq (.t 24) (cI 0)])
 (.cond (.t 25)
 (.seq (.ops [lT 26 5 4,
 o 27 (.build ([(.cl []),(.cl []),(.cl []),(.cl []),(.int .i64 0),(.int .i64 0),(.int .i64 0),(.int .i64 0),(.int .i64 0),(.int .i64 0),(.int .i64 0)]) [(0,5,(.t 26)),(5,1,(cI 2))]),
 sT 11 6 27])
 .ret)
 .skip))
 (.seq (.ops [fA 28 3 7,l1 29 28,lN 30 29,bN 31 .sub (.t 30) (cI 1),mT 8 31])
 (.seq (.seq (.ops [fA 32 2 7,l1 33 32,lN 34 33,bN 35 .eql (.t 34) (cI 1)])
 (.cond (.t 35)
 (.seq (.ops [fA 36 2 7,l1 37 36,o 38 (.ia 2 (.t 37) (cI 0)),lT 39 2 38,o 9 (.alloc [(.int .i64 0),(.int .i64 0)]),sT 2 9 39])
 (.seq (.seq (.ops [mT 40 8,bN 41 .lss (.t 40) (cI 0)])
 (.cond (.t 41)
 (.seq (.draw [lT 42 5 4,fA 43 1 4,l1 44 43,mT 45 2,iA 46 1 44 45,l1 47 46,lT 48 2 9,o 49 (.bslice 1 2 [(.int .i64 0),(.int .i64 0)] [(0,(.t 48))]),
 o 50 (.build [(.int .i64 0),(.int .i64 0),(.cl []),(.cl [])] [(0,1,(cI 6)),(1,1,(cI 1)),(2,1,(.t 49))]),cL 51 F.R06_set [(.t 42),(.t 47),(.t 50)],mT 52 2,lT 53 2 9,
 cL 54 F.R06_Masked [(.t 53)],o 55 (.build [(.int .i64 0),(.int .i64 0),(.int .i64 0),(.int .i64 0),(.int .i64 0)] [(0,1,(.t 52)),(2,1,(cI 1)),(3,2,(.t 54))]),
 o 56 (.build ([(.cl []),(.cl []),(.cl []),(.cl []),(.int .i64 0),(.int .i64 0),(.int .i64 0),(.int .i64 0),(.int .i64 0),(.int .i64 0),(.int .i64 0)]) [(0,5,(.t 51)),(5,1,(cI 1)),(6,5,(.t 55))]),
 sT 11 6 56]
 [(0,7),(2,7),(4,7),(5,7),(7,11),(9,11)])
 .ret)
 .skip))
 (.seq (.ops [fA 57 3 7,l1 58 57,o 59 (.append 3 (.c (.cl [])) (.t 58)),mT 10 59])
 (.seq (.draw [mT 60 10,mT 61 8,mT 62 10,mT 63 8,iA 64 3 62 63,fA 65 2 64,l1 66 65,lT 67 2 9,cL 68 F.R06_more [(.t 66),(.t 67)],iA 69 3 60 61,fA 70 2 69,sT 1 70 68]
 [])
 (.seq (.draw [lT 71 5 4,fA 72 1 4,l1 73 72,mT 74 2,iA 75 1 73 74,l1 76 75,mT 77 10,
 o 78 (.build [(.int .i64 0),(.int .i64 0),(.cl []),(.cl [])] [(0,1,(cI 6)),(3,1,(.t 77))]),cL 79 F.R06_set [(.t 71),(.t 76),(.t 78)],
 o 80 (.build ([(.cl []),(.cl []),(.cl []),(.cl []),(.int .i64 0),(.int .i64 0),(.int .i64 0),(.int .i64 0),(.int .i64 0),(.int .i64 0),(.int .i64 0)]) [(0,5,(.t 79))]),
 sT 11 6 80]
 [])
 .ret)))))
 .skip))
 (.seq (.ops [fA 81 3 7,l1 82 81,mT 83 8,iA 84 3 82 83,lT 85 3 84,o 11 (.alloc [(.int .i64 0),(.cl []),(.cl [])]),sT 3 11 85])
 (.seq (.ops [fA 86 0 3,l1 87 86,fA 88 0 11,l1 89 88,iA 90 4 87 89,lT 91 4 90,o 12 (.alloc [(.int .i64 0),(.int .i64 0),(.cl []),(.cl [])]),sT 4 12 91])
 (.seq (.seq (.ops [fA 92 2 11,l1 93 92,lN 94 93,mT 13 94])
 (.seq (.ops [mT 95 13,lT 96 4 12,cL 97 F.R06_Asks [(.t 96)],bN 98 .lss (.t 95) (.t 97)])
 (.cond (.t 98)
 (.seq (.draw [lT 99 5 4,mT 100 2,fA 101 3 7,l1 102 101,fA 103 2 12,l1 104 103,mT 105 13,iA 106 1 104 105,l1 107 106,fA 108 1 11,l1 109 108,
 cL 110 F.R06_onto [(.t 99),(.t 100),(.t 102),(.t 107),(.t 109)],sT 11 6 110]
 [])
 .ret)
 .skip)))
 (.seq (.draw [lT 111 4 3,lT 112 5 4,mT 113 2,fA 114 3 7,l1 115 114,mT 116 8,o 117 (.slice false 3 (.t 115) none (some (.t 116)) none),
 o 118 (.append 3 (.c (.cl [])) (.t 117)),lT 119 3 11,cL 120 F.R06_does [(.t 111),(.t 112),(.t 113),(.t 118),(.t 119)],sT 11 6 120]
 [(0,7),(1,7),(7,8)])
 .ret))))))))) }
def C.past_player_object : LFunc := { np := 2,res := [.tmp 4],keep := false,body :=
 (.seq (.ops [bX 3 15 1,mC 4 (.int .i64 0)])
 (.seq (.draw [mT 10 0,nK 11 10,fA 12 3 11,lT 13 4 12,fA 14 0 3,lT 15 5 14,cL 16 F.mean_Settle [(.t 13),(.t 15)],mT 9 16,o 17 (.ext 0 (.t 9)),o 18 (.ext 1 (.t 9)),
 o 19 (.ext 2 (.t 9)),o 5 (.alloc [(.cl []),(.cl []),(.cl []),(.cl []),(.int .i64 0)]),sT 5 5 17,mT 6 18,mT 7 19]
 [(3,11),(5,11),(6,11)])
 (.seq (.opsP [mT 20 7,bN 21 .eql (.t 20) (cI 0),mT 22 7,cL 23 F.past_must [(.t 21),(.t 22)]])
 (.seq (.seq (.ops [fA 24 10 3,fA 25 1 24,l1 26 25])
 (.block 0 (.seq (.seq (.ops [bN 28 .eql (.t 26) (cI 17),mT 27 28])
 (.cond (.t 27)
 .skip
 (.seq (.ops [bN 29 .eql (.t 26) (cI 18),mT 27 29])
 (.cond (.t 27)
 .skip
 (.seq (.ops [bN 30 .eql (.t 26) (cI 22),mT 27 30])
 (.cond (.t 27)
 .skip
 (.seq (.ops [bN 31 .eql (.t 26) (cI 23),mT 27 31])
 (.cond (.t 27)
 .skip
 (.ops [bN 32 .eql (.t 26) (cI 20),mT 27 32])))))))))
 (.cond (.t 27)
 (.seq (.draw [fA 33 0 5,l1 34 33,fA 35 1 5,l1 36 35,fA 37 10 3,fA 38 0 37,l1 39 38,iA 40 1 36 39,l1 41 40,iA 42 4 34 41,fA 43 3 42,l1 44 43,mT 8 44]
 [])
 (.seq (.ops [mT 45 8,mT 46 8,lN 47 46,bN 48 .sub (.t 47) (cI 1),iA 49 3 45 48,fA 50 2 49,l1 51 50,o 52 (.ia 2 (.t 51) (cI 0)),fA 53 1 52,l1 54 53,mT 4 54])
 .ret))
 (.seq (.seq (.ops [bN 56 .eql (.t 26) (cI 16),mT 55 56])
 (.cond (.t 55)
 .skip
 (.seq (.ops [bN 57 .eql (.t 26) (cI 21),mT 55 57])
 (.cond (.t 55)
 .skip
 (.ops [bN 58 .eql (.t 26) (cI 19),mT 55 58])))))
 (.cond (.t 55)
 (.seq (.ops [fA 59 0 5,l1 60 59,lN 61 60,mT 4 61])
 .ret)
 .skip))))))
 (.seq (.ops [mC 4 (.int .i64 (-1))])
 .ret))))) }
def C.past_player_first : LFunc := { np := 3,res := [.cell 6 false 1],keep := false,body :=
 (.seq (.ops [bX 4 1 1,bX 5 1 2,o 6 (.alloc [(.int .i64 0)])])
 (.seq (.opsP [l1 9 4,bN 10 .geq (.t 9) (cI 0),cL 11 F.past_must [(.t 10),(cI 2)]])
 (.seq (.drawP [l1 12 5,mT 13 0,nK 14 13,fA 15 0 14,fA 16 2 15,l1 17 16,o 18 (.ia 5 (.t 17) (cI 0)),lT 19 5 18,o 20 (.call (.t 12) [(.t 19)]),l1 21 4,
 bN 22 .leq (.t 20) (.t 21),cL 23 F.past_must [(.t 22),(cI 5)]]
 [[],[],[1],[2,1],[3,2,1],[4,3,2,1],[5,4,3,2,1],[6,5,4,3,2,1],[0,7,6,5,4,3,2,1],[],[8,9,0,7,6,5,4,3,2,1],[10,8,9,0,7,6,5,4,3,2,1]]
 [(8,9)])
 (.seq (.seq (.ops [mT 24 0,cL 25 F.past_player_worlds [(.t 24),(cI 0)]])
 (.block 0 (.rangeF (.t 25) [26,27]
 (.seq (.ops [mT 7 26])
 (.ops [o 8 (.alloc [(.cl []),(.cl []),(.cl []),(.cl []),(.int .i64 0)]),sT 5 8 27]))
 (.block 1 (.seq (.draw [mT 28 7,bN 29 .gtr (.t 28) (cI 0),mT 30 29,g1 31 30 true 5,gT 32 30 true 5 8,og 33 30 true (.call (.t 31) [(.t 32)]),g1 34 30 true 4,
 gB 35 30 true .gtr (.t 33) (.t 34),pA 36 30 35]
 [(5,6)])
 (.cond (.t 36)
 (.seq (.ops [mT 37 7,bN 38 .sub (.t 37) (cI 1),sT 1 6 38])
 .ret)
 .skip))))))
 (.opsP [o 39 (.build [(.int .i64 0)] [(0,1,(cI 5))]),o 40 (.iface 167 (.t 39)),on (.panic (.t 40))]))))) }
def C.past_Sender_c2 : LFunc := { np := 1,res := [.tmp 2],keep := false,body :=
 (.seq (.ops [bX 1 5 0,mC 2 (.int .i64 0)])
 (.seq (.ops [fA 3 2 1,l1 4 3,lN 5 4,mT 2 5])
 .ret)) }
def C.past_Reader_c2 : LFunc := { np := 1,res := [.tmp 2],keep := false,body :=
 (.seq (.ops [bX 1 5 0,mC 2 (.int .i64 0)])
 (.seq (.ops [fA 3 4 1,l1 4 3,mT 2 4])
 .ret)) }
def C.past_Born_c2 : LFunc := { np := 1,res := [.tmp 2],keep := false,body :=
 (.seq (.ops [bX 1 5 0,mC 2 (.int .i64 0)])
 (.seq (.ops [fA 3 0 1,l1 4 3,lN 5 4,mT 2 5])
 .ret)) }
def C.past_when : LFunc := { np := 1,res := [.tmp 2],keep := false,body :=
 (.seq (.ops [bX 1 4 0,mC 2 .nili])
 (.seq (.opsP [fA 4 0 1,l1 5 4,bN 6 .geq (.t 5) (cI 1),mT 7 6,gF 8 7 true 0 1,g1 9 7 true 8,gB 10 7 true .leq (.t 9) (cI 4),pA 11 7 10,
 cL 12 F.past_must [(.t 11),(cI 2)]])
 (.seq (.ops [fA 13 1 1,l1 14 13,fA 15 2 1,lT 16 2 15,o 17 (.build [(.int .i64 0),(.int .i64 0),(.int .i64 0)] [(0,1,(.t 14)),(1,2,(.t 16))]),o 18 (.iface 194 (.t 17)),
 fA 19 1 1,l1 20 19,o 21 (.build [(.int .i64 0)] [(0,1,(.t 20))]),o 22 (.iface 196 (.t 21)),fA 23 1 1,l1 24 23,o 25 (.build [(.int .i64 0)] [(0,1,(.t 24))]),
 o 26 (.iface 197 (.t 25)),fA 27 1 1,l1 28 27,o 29 (.build [(.int .i64 0)] [(0,1,(.t 28))]),o 30 (.iface 198 (.t 29)),
 o 31 (.bslice 4 1 [.nili] [(0,(.t 18)),(1,(.t 22)),(2,(.t 26)),(3,(.t 30))]),fA 32 0 1,l1 33 32,bN 34 .sub (.t 33) (cI 1),iA 35 1 31 34,l1 36 35,mT 3 36])
 (.seq (.seq (.ops [mT 37 3])
 (.block 0 (.seq (.ops [o 43 (.assert 194 (.agg [(.int .i64 0),(.int .i64 0),(.int .i64 0)]) true (.t 37)),o 44 (.ext 1 (.t 43)),o 45 (.ext 0 (.t 43))])
 (.cond (.t 44)
 .skip
 (.opsP [fA 38 2 1,lT 39 2 38,o 40 (.build [(.int .i64 0),(.int .i64 0)] []),o 41 (.bin .eql (.agg [.num,.num]) (.t 39) (.t 40)),
 cL 42 F.past_must [(.t 41),(cI 2)]])))))
 (.seq (.ops [mT 46 3,mT 2 46])
 .ret))))) }
def C.past_player_worlds : LFunc := { np := 2,res := [.tmp 4],keep := false,body :=
 (.seq (.ops [bX 2 1 0,bX 3 1 1,mC 4 .nilf])
 (.seq (.ops [o 5 (.mkfn F.past_player_worlds_c1 [] [(.t 2),(.t 3)]),mT 4 5])
 .ret)) }
def C.mean_Check : LFunc := { np := 2,res := [.tmp 4],keep := false,body :=
 (.seq (.ops [bX 2 4 0,bX 3 5 1,mC 4 (.int .i64 0)])
 (.seq (.seq (.ops [lT 8 4 2,lT 9 5 3,cL 10 F.mean_running [(.t 8),(.t 9)],mT 7 10,o 11 (.ext 0 (.t 7)),o 12 (.ext 1 (.t 7)),mT 5 11,mT 6 12])
 (.seq (.ops [mT 13 6,nT 14 13])
 (.cond (.t 14)
 (.seq (.ops [mC 4 (.int .i64 2)])
 .ret)
 .skip)))
 (.seq (.ops [mC 4 (.int .i64 0)])
 .ret))) }
def C.mean_Settle : LFunc := { np := 2,res := [.cell 4 true 5,.tmp 5,.tmp 6],keep := false,body :=
 (.seq (.ops [bX 2 4 0,bX 3 5 1,o 4 (.alloc [(.cl []),(.cl []),(.cl []),(.cl []),(.int .i64 0)]),mC 5 (.int .i64 0),mC 6 (.int .i64 0)])
 (.seq (.ops [lT 11 4 2,lT 12 5 3,o 13 (.icall (.f F.mean_running) [(.t 11),(.t 12)]),mT 10 13,o 14 (.ext 0 (.t 10)),o 15 (.ext 1 (.t 10)),mT 7 14,mT 8 15])
 (.seq (.seq (.ops [mT 16 8,nT 17 16])
 (.cond (.t 17)
 (.seq (.ops [o 18 (.build [(.cl []),(.cl []),(.cl []),(.cl []),(.int .i64 0)] []),sT 5 4 18,mC 5 (.int .i64 0),mC 6 (.int .i64 2)])
 .ret)
 .skip))
 (.seq (.ops [mT 20 7,o 21 (.icall (.f F.mean_runner_settle) [(.t 20),(cI 0)]),mT 19 21,o 22 (.ext 0 (.t 19)),o 23 (.ext 1 (.t 19)),mT 9 22,mT 8 23])
 (.seq (.seq (.ops [mT 24 8,nT 25 24])
 (.cond (.t 25)
 (.seq (.ops [o 26 (.build [(.cl []),(.cl []),(.cl []),(.cl []),(.int .i64 0)] []),sT 5 4 26,mC 5 (.int .i64 0),mC 6 (.int .i64 8)])
 .ret)
 .skip))
 (.seq (.ops [mT 27 7,cL 28 F.mean_runner_copied [(.t 27)],mT 29 9,sT 5 4 28,mT 5 29,mC 6 (.int .i64 0)])
 .ret)))))) }
def C.R05_in : LFunc := { np := 3,res := [.tmp 6],keep := false,body :=
 (.seq (.ops [mC 6 (.bool false)])
 (.seq (.ops [mT 7 0,mT 8 1,bN 9 .geq (.t 7) (.t 8),mT 10 9,gM 11 10 true 0,gM 12 10 true 2,gB 13 10 true .leq (.t 11) (.t 12),pA 14 10 13,mT 6 14])
 .ret)) }
def C.R05_cons : LFunc := { np := 1,res := [.tmp 2],keep := false,body :=
 (.seq (.ops [mC 2 (.bool false)])
 (.seq (.ops [mC 3 (.cl [])])
 (.seq (.seq (.ops [mC 4 (.int .i64 0)])
 (.block 0 (.loop (.seq (.seq (.ops [mT 5 4,mT 6 0,lN 7 6,bN 8 .lss (.t 5) (.t 7)])
 (.cond (.t 8)
 .skip
 (.exit 0)))
 (.seq (.block 1 (.seq (.seq (.ops [mT 11 0,mT 12 4,iA 13 2 11 12,fA 14 0 13,l1 15 14,cL 16 F.R01_Great [(.t 15)],nT 17 16,mT 18 17,gM 19 18 false 0,gM 20 18 false 4,
 og 21 18 false (.ia 2 (.t 19) (.t 20)),gF 22 18 false 1 21,g1 23 18 false 22,gL 24 18 false F.R05_in [(.t 23),(cI 0),(cI 3)],og 25 18 false (.un .not (.t 24)),
 pO 26 18 25])
 (.cond (.t 26)
 (.seq (.ops [mC 2 (.bool false)])
 .ret)
 .skip))
 (.ops [mT 27 3,mT 28 0,mT 29 4,iA 30 2 28 29,fA 31 0 30,l1 32 31,o 33 (.bslice 1 1 [(.str ⟨#[]⟩)] [(0,(.t 32))]),o 34 (.append 1 (.t 27) (.t 33)),mT 3 34])))
 (.ops [mT 9 4,bN 10 .add (.t 9) (cI 1),mT 4 10]))))))
 (.seq (.ops [mT 35 0,lN 36 35,bN 37 .leq (.t 36) (cI 20),mT 38 37,gM 39 38 true 3,gL 40 38 true F.R01_Differ [(.t 39)],pA 41 38 40,mT 2 41])
 .ret)))) }
def C.R05_node : LFunc := { np := 2,res := [.tmp 4],keep := false,body :=
 (.seq (.ops [bX 2 4 0,bX 3 4 1,mC 4 (.bool false)])
 (.seq (.ops [mC 5 (.int .i64 0)])
 (.seq (.ops [fA 8 1 3,l1 9 8,bN 10 .eql (.t 9) (cI 0),mT 6 10])
 (.seq (.seq (.ops [fA 11 0 3,l1 12 11])
 (.block 0 (.seq (.ops [bN 14 .eql (.t 12) (cI 1),mT 13 14])
 (.cond (.t 13)
 (.ops [fA 15 1 3,l1 16 15,cL 17 F.R05_in [(.t 16),(cI (-1000000000)),(cI 1000000000)],mT 6 17])
 (.seq (.ops [bN 19 .eql (.t 12) (cI 2),mT 18 19])
 (.cond (.t 18)
 (.ops [fA 20 1 3,l1 21 20,cL 22 F.R05_in [(.t 21),(cI 0),(cI 1)],mT 6 22])
 (.seq (.ops [bN 24 .eql (.t 12) (cI 4),mT 23 24])
 (.cond (.t 23)
 (.ops [fA 25 1 3,l1 26 25,fA 27 1 2,l1 28 27,lN 29 28,o 30 (.un .neg (.t 29)),cL 31 F.R05_in [(.t 26),(.t 30),(cI 29)],mT 6 31])
 (.seq (.ops [bN 33 .eql (.t 12) (cI 24),mT 32 33])
 (.cond (.t 32)
 (.ops [fA 34 1 3,l1 35 34,cL 36 F.R05_in [(.t 35),(cI 0),(cI 3)],mT 6 36])
 (.seq (.ops [bN 38 .eql (.t 12) (cI 14),mT 37 38])
 (.cond (.t 37)
 (.seq (.ops [fA 39 1 3,l1 40 39,fA 41 3 2,l1 42 41,lN 43 42,bN 44 .sub (.t 43) (cI 1),cL 45 F.R05_in [(.t 40),(cI 0),(.t 44)],mT 6 45])
 (.seq (.ops [mT 46 6])
 (.cond (.t 46)
 (.ops [fA 47 3 2,l1 48 47,fA 49 1 3,l1 50 49,iA 51 2 48 50,fA 52 1 51,l1 53 52,mT 5 53])
 .skip)))
 .skip))))))))))))
 (.seq (.seq (.ops [fA 54 0 3,l1 55 54,bN 56 .eql (.t 55) (cI 15)])
 (.cond (.t 56)
 (.ops [mT 57 6,mT 58 57,gF 59 58 true 3 3,g1 60 58 true 59,gN 61 58 true 60,gL 62 58 true F.R05_in [(.t 61),(cI 1),(cI 5)],pA 63 58 62,mT 6 63])
 (.ops [mT 64 6,mT 65 64,gF 66 65 true 3 3,g1 67 65 true 66,gN 68 65 true 67,gB 69 65 true .eql (.t 68) (cI 0),pA 70 65 69,mT 6 70])))
 (.seq (.seq (.ops [mC 7 (.int .i64 0)])
 (.block 1 (.loop (.seq (.seq (.ops [mT 71 7,fA 72 3 3,l1 73 72,lN 74 73,bN 75 .lss (.t 71) (.t 74),mT 76 75,gM 77 76 true 6,pA 78 76 77])
 (.cond (.t 78)
 .skip
 (.exit 1)))
 (.seq (.block 2 (.draw [fA 81 3 3,l1 82 81,mT 83 7,iA 84 4 82 83,lT 85 4 84,cL 86 F.R01_WeighPat [(.t 85),(cI 12)],bN 87 .geq (.t 86) (cI 0),mT 88 87,
 gF 89 88 true 3 3,g1 90 88 true 89,gM 91 88 true 7,og 92 88 true (.ia 4 (.t 90) (.t 91)),gT 93 88 true 4 92,gF 94 88 true 3 2,g1 95 88 true 94,
 gL 96 88 true F.R05_pat [(.t 93),(.t 95)],pA 97 88 96,mT 6 97]
 []))
 (.ops [mT 79 7,bN 80 .add (.t 79) (cI 1),mT 7 80]))))))
 (.seq (.draw [mT 98 6,mT 99 98,gF 100 99 true 2 3,g1 101 99 true 100,gN 102 99 true 101,gF 103 99 true 0 3,g1 104 99 true 103,gF 105 99 true 3 3,g1 106 99 true 105,
 gN 107 99 true 106,gM 108 99 true 5,gL 109 99 true F.R05_kids [(.t 104),(.t 107),(.t 108)],gB 110 99 true .eql (.t 102) (.t 109),pA 111 99 110,mT 4 111]
 [(3,11),(4,11)])
 .ret))))))) }
def C.R06_Ints : LFunc := { np := 2,res := [.tmp 4],keep := false,body :=
 (.seq (.ops [mC 4 (.bool false)])
 (.seq (.seq (.ops [mC 5 (.int .i64 0)])
 (.block 0 (.loop (.seq (.seq (.ops [mT 6 5,mT 7 0,lN 8 7,bN 9 .lss (.t 6) (.t 8),mT 10 9,gM 11 10 true 5,gM 12 10 true 1,gB 13 10 true .leq (.t 11) (.t 12),
 pA 14 10 13])
 (.cond (.t 14)
 .skip
 (.exit 0)))
 (.seq (.block 1 (.seq (.ops [mT 17 0,mT 18 5,iA 19 1 17 18,l1 20 19,cL 21 F.R06_in [(.t 20),(cI (-1000000000)),(cI 1000000000)],nT 22 21])
 (.cond (.t 22)
 (.seq (.ops [mC 4 (.bool false)])
 .ret)
 .skip)))
 (.ops [mT 15 5,bN 16 .add (.t 15) (cI 1),mT 5 16]))))))
 (.seq (.ops [mT 23 0,lN 24 23,mT 25 1,bN 26 .leq (.t 24) (.t 25),mT 4 26])
 .ret))) }
def C.R06_in : LFunc := { np := 3,res := [.tmp 6],keep := false,body :=
 (.seq (.ops [mC 6 (.bool false)])
 (.seq (.ops [mT 7 0,mT 8 1,bN 9 .geq (.t 7) (.t 8),mT 10 9,gM 11 10 true 0,gM 12 10 true 2,gB 13 10 true .leq (.t 11) (.t 12),pA 14 10 13,mT 6 14])
 .ret)) }
def C.R06_tasks : LFunc := { np := 1,res := [.tmp 2],keep := false,body :=
 (.seq (.ops [bX 1 5 0,mC 2 (.bool false)])
 (.seq (.ops [mC 3 (.int .i64 0)])
 (.seq (.seq (.ops [mC 4 (.int .i64 0)])
 (.block 0 (.loop (.seq (.seq (.ops [mT 7 4,fA 8 0 1,l1 9 8,lN 10 9,bN 11 .lss (.t 7) (.t 10)])
 (.cond (.t 11)
 .skip
 (.exit 0)))
 (.seq (.block 1 (.seq (.ops [fA 14 0 1,l1 15 14,mT 16 4,iA 17 4 15 16,fA 18 0 17,l1 19 18,bN 20 .eql (.t 19) (cI 6)])
 (.cond (.t 20)
 (.ops [mT 21 3,bN 22 .add (.t 21) (cI 1),mT 3 22])
 .skip)))
 (.ops [mT 12 4,bN 13 .add (.t 12) (cI 1),mT 4 13]))))))
 (.seq (.seq (.ops [fA 23 1 1,l1 24 23,lN 25 24,mT 26 3,bN 27 .neq (.t 25) (.t 26)])
 (.cond (.t 27)
 (.seq (.ops [mC 2 (.bool false)])
 .ret)
 .skip))
 (.seq (.seq (.ops [mC 5 (.int .i64 0)])
 (.block 2 (.loop (.seq (.seq (.ops [mT 28 5,mT 29 3,bN 30 .lss (.t 28) (.t 29)])
 (.cond (.t 30)
 .skip
 (.exit 2)))
 (.seq (.block 3 (.seq (.ops [fA 33 1 1,l1 34 33,mT 35 5,iA 36 1 34 35,l1 37 36,mT 6 37])
 (.seq (.ops [mT 38 6,fA 39 0 1,l1 40 39,lN 41 40,bN 42 .sub (.t 41) (cI 1),cL 43 F.R06_in [(.t 38),(cI 0),(.t 42)],nT 44 43,mT 45 44,gF 46 45 false 0 1,
 g1 47 45 false 46,gM 48 45 false 6,og 49 45 false (.ia 4 (.t 47) (.t 48)),gF 50 45 false 0 49,g1 51 45 false 50,gB 52 45 false .neq (.t 51) (cI 6),pO 53 45 52,
 mT 54 53,gF 55 54 false 1 1,g1 56 54 false 55,gM 57 54 false 5,og 58 54 false (.slice false 1 (.t 56) none (some (.t 57)) none),gM 59 54 false 6,
 gL 60 54 false F.R06_listed [(.t 58),(.t 59)],pO 61 54 60])
 (.cond (.t 61)
 (.seq (.ops [mC 2 (.bool false)])
 .ret)
 .skip))))
 (.ops [mT 31 5,bN 32 .add (.t 31) (cI 1),mT 5 32]))))))
 (.seq (.ops [mC 2 (.bool true)])
 .ret)))))) }
def C.R06_object : LFunc := { np := 3,res := [.tmp 6],keep := false,body :=
 (.seq (.ops [bX 3 4 0,bX 4 5 1,bX 5 4 2,mC 6 (.bool false)])
 (.seq (.seq (.ops [fA 7 0 5,l1 8 7,bN 9 .eql (.t 8) (cI 6)])
 (.cond (.t 9)
 (.seq (.ops [lT 10 4 3,lT 11 5 4,lT 12 4 5,cL 13 F.R06_task [(.t 10),(.t 11),(.t 12)],mT 6 13])
 .ret)
 .skip))
 (.seq (.seq (.ops [fA 14 0 5,l1 15 14,bN 16 .eql (.t 15) (cI 5)])
 (.cond (.t 16)
 (.seq (.draw [fA 17 1 5,l1 18 17,bN 19 .eql (.t 18) (cI 0),mT 20 19,gF 21 20 true 2 5,g1 22 20 true 21,gN 23 20 true 22,gB 24 20 true .eql (.t 23) (cI 0),pA 25 20 24,
 mT 26 25,gF 27 26 true 3 5,g1 28 26 true 27,gN 29 26 true 28,gB 30 26 true .gtr (.t 29) (cI 0),pA 31 26 30,mT 32 31,gT 33 32 true 4 3,gT 34 32 true 5 4,
 gF 35 32 true 3 5,g1 36 32 true 35,gL 37 32 true F.R06_frames [(.t 33),(.t 34),(.t 36)],pA 38 32 37,mT 39 38,gT 40 39 true 4 3,gF 41 39 true 3 5,g1 42 39 true 41,
 gF 43 39 true 3 5,g1 44 39 true 43,gN 45 39 true 44,gL 46 39 true F.R06_Open [(.t 40),(.t 42),(.t 45)],pA 47 39 46,mT 48 47,gF 49 48 true 0 3,g1 50 48 true 49,
 gF 51 48 true 3 5,g1 52 48 true 51,og 53 48 true (.ia 3 (.t 52) (cI 0)),gF 54 48 true 0 53,g1 55 48 true 54,og 56 48 true (.ia 4 (.t 50) (.t 55)),gF 57 48 true 0 56,
 g1 58 48 true 57,gB 59 48 true .eql (.t 58) (cI 26),pA 60 48 59,mT 6 60]
 [])
 .ret)
 .skip))
 (.seq (.seq (.ops [fA 61 3 5,l1 62 61,lN 63 62,bN 64 .neq (.t 63) (cI 0)])
 (.cond (.t 64)
 (.seq (.ops [mC 6 (.bool false)])
 .ret)
 .skip))
 (.seq (.seq (.ops [fA 65 0 5,l1 66 65])
 (.block 0 (.seq (.ops [bN 68 .eql (.t 66) (cI 1),mT 67 68])
 (.cond (.t 67)
 (.seq (.draw [fA 69 1 5,l1 70 69,fA 71 3 3,l1 72 71,lN 73 72,bN 74 .sub (.t 73) (cI 1),cL 75 F.R06_in [(.t 70),(cI 0),(.t 74)],mT 76 75,gF 77 76 true 2 5,
 g1 78 76 true 77,gN 79 76 true 78,gF 80 76 true 3 3,g1 81 76 true 80,gF 82 76 true 1 5,g1 83 76 true 82,og 84 76 true (.ia 2 (.t 81) (.t 83)),gF 85 76 true 1 84,
 g1 86 76 true 85,gB 87 76 true .eql (.t 79) (.t 86),pA 88 76 87,mT 89 88,gT 90 89 true 4 3,gT 91 89 true 5 4,gF 92 89 true 2 5,g1 93 89 true 92,
 gL 94 89 true F.R06_values [(.t 90),(.t 91),(.t 93),(cI 3)],pA 95 89 94,mT 6 95]
 [])
 .ret)
 (.seq (.ops [bN 97 .eql (.t 66) (cI 2),mT 96 97])
 (.cond (.t 96)
 (.seq (.ops [fA 98 1 5,l1 99 98,fA 100 0 3,l1 101 100,lN 102 101,bN 103 .sub (.t 102) (cI 1),cL 104 F.R06_in [(.t 99),(cI 0),(.t 103)],mT 105 104,gF 106 105 true 0 3,
 g1 107 105 true 106,gF 108 105 true 1 5,g1 109 105 true 108,og 110 105 true (.ia 4 (.t 107) (.t 109)),gF 111 105 true 0 110,g1 112 105 true 111,
 gB 113 105 true .eql (.t 112) (cI 5),pA 114 105 113,mT 115 114,gT 116 115 true 4 3,gT 117 115 true 5 4,gF 118 115 true 2 5,g1 119 115 true 118,
 gL 120 115 true F.R06_values [(.t 116),(.t 117),(.t 119),(cI 30)],pA 121 115 120,mT 6 121])
 .ret)
 (.seq (.ops [bN 123 .eql (.t 66) (cI 3),mT 122 123])
 (.cond (.t 122)
 (.seq (.ops [fA 124 1 5,l1 125 124,bN 126 .eql (.t 125) (cI 0),mT 127 126,gF 128 127 true 2 5,g1 129 127 true 128,gN 130 127 true 129,
 gB 131 127 true .eql (.t 130) (cI 1),pA 132 127 131,mT 133 132,gT 134 133 true 4 3,gT 135 133 true 5 4,gF 136 133 true 2 5,g1 137 133 true 136,
 gL 138 133 true F.R06_values [(.t 134),(.t 135),(.t 137),(cI 1)],pA 139 133 138,mT 6 139])
 .ret)
 (.seq (.ops [bN 141 .eql (.t 66) (cI 4),mT 140 141])
 (.cond (.t 140)
 (.seq (.ops [fA 142 1 5,l1 143 142,bN 144 .eql (.t 143) (cI 0),mT 145 144,gT 146 145 true 4 3,gT 147 145 true 5 4,gF 148 145 true 2 5,g1 149 145 true 148,
 gL 150 145 true F.R06_values [(.t 146),(.t 147),(.t 149),(cI 4)],pA 151 145 150,mT 6 151])
 .ret)
 .skip))))))))))
 (.seq (.ops [mC 6 (.bool false)])
 .ret)))))) }
def C.past_player_turn : LFunc := { np := 3,res := [.cell 6 true 5,.cell 7 true 5],keep := false,body :=
 (.seq (.ops [bX 4 5 1,o 6 (.alloc [(.cl []),(.cl []),(.cl []),(.cl []),(.int .i64 0)]),
 o 7 (.alloc [(.int .i64 0),(.int .i64 0),(.int .i64 0),(.int .i64 0),(.int .i64 0)])])
 (.seq (.draw [mT 13 0,nK 14 13,fA 15 3 14,lT 16 4 15,lT 17 5 4,mT 18 2,cL 19 F.mean_Turn [(.t 16),(.t 17),(.t 18)],mT 12 19,o 20 (.ext 0 (.t 12)),
 o 21 (.ext 1 (.t 12)),o 22 (.ext 2 (.t 12)),o 23 (.ext 3 (.t 12)),o 8 (.alloc [(.cl []),(.cl []),(.cl []),(.cl []),(.int .i64 0)]),
 o 9 (.alloc [(.int .i64 0),(.int .i64 0),(.int .i64 0),(.int .i64 0),(.int .i64 0)]),sT 5 8 20,sT 5 9 21,mT 10 22,mT 11 23]
 [(3,12),(4,12),(6,12),(3,13),(4,13),(6,13),(12,13)])
 (.seq (.opsP [mT 24 11,bN 25 .neq (.t 24) (cI 5),cL 26 F.past_must [(.t 25),(cI 6)]])
 (.seq (.opsP [mT 27 11,bN 28 .eql (.t 27) (cI 0),mT 29 11,cL 30 F.past_must [(.t 28),(.t 29)]])
 (.seq (.draw [lT 31 5 8,lT 32 5 9,sT 5 6 31,sT 5 7 32]
 [(1,2)])
 .ret))))) }
def C.past_copies : LFunc := { np := 1,res := [.cell 2 true 3],keep := false,body :=
 (.seq (.ops [bX 1 3 0,o 2 (.alloc [(.int .i64 0),(.cl []),(.cl [])])])
 (.seq (.draw [fA 6 0 1,l1 7 6,fA 8 1 1,l1 9 8,cL 10 F.slices_Clone_s_int_int [(.t 9)],o 11 (.build [(.int .i64 0),(.cl []),(.cl [])] [(0,1,(.t 7)),(1,1,(.t 10))]),
 o 3 (.alloc [(.int .i64 0),(.cl []),(.cl [])]),sT 3 3 11]
 [(1,4),(1,6),(3,6),(4,6)])
 (.seq (.seq (.ops [fA 12 2 1,l1 13 12,lN 14 13,mC 15 (.int .i64 0)])
 (.block 0 (.loop (.seq (.ops [bN 16 .lss (.t 15) (.t 14)])
 (.seq (.cond (.t 16)
 .skip
 (.exit 0))
 (.seq (.block 1 (.seq (.ops [iA 17 5 13 15,lT 18 5 17,o 5 (.alloc [(.cl []),(.cl []),(.cl []),(.cl []),(.int .i64 0)]),sT 5 5 18])
 (.draw [fA 19 2 3,l1 20 19,lT 21 5 5,cL 22 F.past_copied [(.t 21)],o 23 (.bslice 1 5 [(.cl []),(.cl []),(.cl []),(.cl []),(.int .i64 0)] [(0,(.t 22))]),
 o 24 (.append 5 (.t 20) (.t 23)),fA 25 2 3,sT 1 25 24]
 [(1,3),(1,4)])))
 (.ops [bN 26 .add (.t 15) (cI 1),mT 15 26])))))))
 (.seq (.ops [lT 27 3 3,sT 3 2 27])
 .ret)))) }
def C.past_player_marked : LFunc := { np := 2,res := [.tmp 4],keep := false,body :=
 (.seq (.ops [mC 4 (.bool false)])
 (.seq (.ops [mT 5 1,mT 6 0,nK 7 6,fA 8 0 7,fA 9 0 8,l1 10 9,bN 11 .rem (.t 5) (.t 10),bN 12 .eql (.t 11) (cI 0),mT 4 12])
 .ret)) }
def C.R02_ParseModule : LFunc := { np := 1,res := [.cell 2 true 3,.tmp 3],keep := false,body :=
 (.seq (.ops [o 2 (.alloc [(.str ⟨#[]⟩),(.cl []),(.cl [])]),mC 3 (.int .i64 0)])
 (.seq (.ops [mT 8 0,o 9 (.icall (.f F.R02_read) [(.t 8)]),mT 7 9,o 10 (.ext 0 (.t 7)),o 11 (.ext 1 (.t 7)),mT 4 10,mT 5 11])
 (.seq (.seq (.ops [mT 12 5,bN 13 .neq (.t 12) (cI 0)])
 (.cond (.t 13)
 (.seq (.ops [o 14 (.build [(.str ⟨#[]⟩),(.cl []),(.cl [])] []),mT 15 5,sT 3 2 14,mT 3 15])
 .ret)
 .skip))
 (.seq (.ops [mT 16 4,o 17 (.icall (.f F.R02_reader_module) [(.t 16)]),o 6 (.alloc [(.str ⟨#[]⟩),(.cl []),(.cl [])]),sT 3 6 17])
 (.seq (.seq (.ops [mT 18 4,o 19 (.icall (.f F.R02_reader_whole) [(.t 18)]),nT 20 19])
 (.cond (.t 20)
 (.seq (.ops [o 21 (.build [(.str ⟨#[]⟩),(.cl []),(.cl [])] []),sT 3 2 21,mC 3 (.int .i64 4)])
 .ret)
 .skip))
 (.seq (.seq (.ops [lT 22 3 6,cL 23 F.R01_Module [(.t 22)],nT 24 23])
 (.cond (.t 24)
 (.seq (.ops [o 25 (.build [(.str ⟨#[]⟩),(.cl []),(.cl [])] []),sT 3 2 25,mC 3 (.int .i64 2)])
 .ret)
 .skip))
 (.seq (.ops [lT 26 3 6,sT 3 2 26,mC 3 (.int .i64 0)])
 .ret))))))) }
def C.R05_Bind : LFunc := { np := 1,res := [.cell 2 true 4,.tmp 3],keep := false,body :=
 (.seq (.ops [bX 1 3 0,o 2 (.alloc [(.cl []),(.cl []),(.int .i64 0),(.cl [])]),mC 3 (.int .i64 0)])
 (.seq (.seq (.ops [lT 9 3 1,cL 10 F.R01_Module [(.t 9)],nT 11 10])
 (.cond (.t 11)
 (.seq (.ops [o 12 (.build [(.cl []),(.cl []),(.int .i64 0),(.cl [])] []),sT 4 2 12,mC 3 (.int .i64 2)])
 .ret)
 .skip))
 (.seq (.draw [lT 13 3 1,cL 14 F.R05_functions [(.t 13)],lT 15 3 1,cL 16 F.R05_constructors [(.t 15)],
 o 17 (.build [(.cl []),(.cl []),(.cl [])] [(0,1,(.t 14)),(1,1,(.t 16))]),bX 18 3 17,mT 4 18]
 [(1,2)])
 (.seq (.seq (.ops [mT 19 4,nK 20 19,fA 21 0 20,l1 22 21,cL 23 F.R01_Differ [(.t 22)],nT 24 23,mT 25 24,gM 26 25 false 4,og 27 25 false (.nilck (.t 26)),
 gF 28 25 false 1 27,g1 29 25 false 28,gL 30 25 false F.R05_names [(.t 29)],gL 31 25 false F.R01_Differ [(.t 30)],og 32 25 false (.un .not (.t 31)),pO 33 25 32,
 mT 34 33,gM 35 34 false 4,og 36 34 false (.nilck (.t 35)),gF 37 34 false 0 36,g1 38 34 false 37,gL 39 34 false F.R01_Has [(.t 38),(.c (.str ⟨#[109,97,105,110]⟩))],
 og 40 34 false (.un .not (.t 39)),pO 41 34 40])
 (.cond (.t 41)
 (.seq (.ops [o 42 (.build [(.cl []),(.cl []),(.int .i64 0),(.cl [])] []),sT 4 2 42,mC 3 (.int .i64 7)])
 .ret)
 .skip))
 (.seq (.seq (.ops [mC 5 (.int .i64 0)])
 (.block 0 (.loop (.seq (.seq (.ops [mT 43 5,fA 44 2 1,l1 45 44,lN 46 45,bN 47 .lss (.t 43) (.t 46)])
 (.cond (.t 47)
 .skip
 (.exit 0)))
 (.seq (.block 1 (.seq (.draw [mT 50 4,fA 51 2 1,l1 52 51,mT 53 5,iA 54 15 52 53,fA 55 10 54,lT 56 5 55,fA 57 2 1,l1 58 57,mT 59 5,iA 60 15 58 59,fA 61 1 60,l1 62 61,
 o 63 (.bslice 1 1 [(.str ⟨#[]⟩)] [(0,(.t 62))]),o 64 (.icall (.f F.R05_binder_known) [(.t 50),(.t 56),(.t 63)]),nT 65 64]
 [(2,13),(4,13),(6,13)])
 (.cond (.t 65)
 (.seq (.ops [o 66 (.build [(.cl []),(.cl []),(.int .i64 0),(.cl [])] []),sT 4 2 66,mC 3 (.int .i64 7)])
 .ret)
 .skip)))
 (.ops [mT 48 5,bN 49 .add (.t 48) (cI 1),mT 5 49]))))))
 (.seq (.draw [mT 67 4,nK 68 67,fA 69 0 68,l1 70 69,cL 71 F.R05_place [(.t 70),(.c (.str ⟨#[109,97,105,110]⟩))],mT 72 4,nK 73 72,fA 74 1 73,l1 75 74,
 o 76 (.build [(.cl []),(.cl []),(.int .i64 0),(.cl [])] [(2,1,(.t 71)),(3,1,(.t 75))]),o 6 (.alloc [(.cl []),(.cl []),(.int .i64 0),(.cl [])]),sT 4 6 76]
 [(4,8),(3,10),(4,10),(8,10)])
 (.seq (.seq (.ops [mC 7 (.int .i64 0)])
 (.block 2 (.loop (.seq (.seq (.ops [mT 77 7,fA 78 2 1,l1 79 78,lN 80 79,bN 81 .lss (.t 77) (.t 80)])
 (.cond (.t 81)
 .skip
 (.exit 2)))
 (.seq (.block 3 (.seq (.draw [fA 84 1 6,l1 85 84,mT 86 4,nK 87 86,fA 88 2 87,l1 89 88,lN 90 89,o 91 (.bslice 1 1 [(.int .i64 0)] [(0,(.t 90))]),
 o 92 (.append 1 (.t 85) (.t 91)),fA 93 1 6,sT 1 93 92]
 [(1,7)])
 (.draw [mT 94 4,fA 95 2 1,l1 96 95,mT 97 7,iA 98 15 96 97,fA 99 10 98,lT 100 5 99,fA 101 2 1,l1 102 101,mT 103 7,iA 104 15 102 103,fA 105 1 104,l1 106 105,
 o 107 (.bslice 1 1 [(.str ⟨#[]⟩)] [(0,(.t 106))]),o 108 (.icall (.f F.R05_binder_put) [(.t 94),(.t 100),(.t 107)])]
 [(2,13),(4,13),(6,13)])))
 (.ops [mT 82 7,bN 83 .add (.t 82) (cI 1),mT 7 83]))))))
 (.seq (.ops [mT 109 4,nK 110 109,fA 111 2 110,l1 112 111,fA 113 0 6,sT 1 113 112])
 (.seq (.seq (.ops [mC 8 (.int .i64 0)])
 (.block 4 (.loop (.seq (.seq (.ops [mT 114 8,fA 115 0 6,l1 116 115,lN 117 116,bN 118 .lss (.t 114) (.t 117)])
 (.cond (.t 118)
 .skip
 (.exit 4)))
 (.seq (.block 5 (.seq (.ops [fA 121 0 6,l1 122 121,mT 123 8,iA 124 4 122 123,fA 125 0 124,l1 126 125,bN 127 .eql (.t 126) (cI 4),mT 128 127,gF 129 128 true 0 6,
 g1 130 128 true 129,gM 131 128 true 8,og 132 128 true (.ia 4 (.t 130) (.t 131)),gF 133 128 true 1 132,g1 134 128 true 133,gB 135 128 true .geq (.t 134) (cI 30),
 pA 136 128 135])
 (.cond (.t 136)
 (.seq (.ops [o 137 (.build [(.cl []),(.cl []),(.int .i64 0),(.cl [])] []),sT 4 2 137,mC 3 (.int .i64 3)])
 .ret)
 .skip)))
 (.ops [mT 119 8,bN 120 .add (.t 119) (cI 1),mT 8 120]))))))
 (.seq (.ops [lT 138 4 6,sT 4 2 138,mC 3 (.int .i64 0)])
 .ret)))))))))) }
def C.R06_Start : LFunc := { np := 2,res := [.cell 4 true 5,.tmp 5],keep := false,body :=
 (.seq (.ops [bX 2 4 0,o 4 (.alloc [(.cl []),(.cl []),(.cl []),(.cl []),(.int .i64 0)]),mC 5 (.bool false)])
 (.seq (.draw [lT 10 4 2,lT 11 4 2,mT 12 1,cL 13 F.R06_First [(.t 11),(.t 12)],cL 14 F.R06_Settle [(.t 10),(.t 13),(cI 0)],mT 9 14,o 15 (.ext 0 (.t 9)),
 o 16 (.ext 1 (.t 9)),o 17 (.ext 2 (.t 9)),o 6 (.alloc [(.cl []),(.cl []),(.cl []),(.cl []),(.int .i64 0)]),sT 5 6 15,mT 7 16,mT 8 17]
 [(0,3),(0,9),(1,9),(3,9),(4,9)])
 (.seq (.ops [lT 18 5 6,mT 19 8,sT 5 4 18,mT 5 19])
 .ret))) }
def C.past_same : LFunc := { np := 2,res := [.tmp 4],keep := false,body :=
 (.seq (.ops [bX 2 5 0,bX 3 5 1,mC 4 (.bool false)])
 (.seq (.ops [o 5 (.alloc [.nilf]),on (.store 1 (.t 5) (.f F.past_same_c1))])
 (.seq (.ops [o 7 (.mkfn F.past_same_c2 [] [(.t 5)]),mT 6 7])
 (.seq (.ops [fA 8 0 2,l1 9 8,fA 10 0 3,l1 11 10,mT 12 6,cL 13 F.slices_EqualFunc_s_api_MeanObj__api_MeanObj_api_MeanObj_api_MeanObj [(.t 9),(.t 11),(.t 12)],mT 14 13,
 gF 15 14 true 1 2,g1 16 14 true 15,gF 17 14 true 1 3,g1 18 14 true 17,gL 19 14 true F.slices_Equal_s_int_int [(.t 16),(.t 18)],pA 20 14 19,mT 21 20,gF 22 21 true 2 2,
 g1 23 21 true 22,gF 24 21 true 2 3,g1 25 21 true 24,gL 26 21 true F.slices_Equal_s_api_MeanOut_api_MeanOut [(.t 23),(.t 25)],pA 27 21 26,mT 28 27,gF 29 28 true 3 2,
 g1 30 28 true 29,gF 31 28 true 3 3,g1 32 28 true 31,gL 33 28 true F.slices_Equal_s_int_int [(.t 30),(.t 32)],pA 34 28 33,mT 35 34,gF 36 35 true 4 2,g1 37 35 true 36,
 gF 38 35 true 4 3,g1 39 35 true 38,gB 40 35 true .eql (.t 37) (.t 39),pA 41 35 40,mT 4 41])
 .ret)))) }
def C.slices_Clone_s_int_int : LFunc := { np := 1,res := [.tmp 2],keep := true,amb := true,body :=
 (.seq (.ops [mC 2 (.cl [])])
 (.seq (.seq (.ops [mT 3 0,o 4 (.bin .eql .slice (.t 3) (.c (.es true)))])
 (.cond (.t 4)
 (.seq (.ops [mC 2 (.cl [])])
 .ret)
 .skip))
 (.seq (.ops [o 5 (.bslice 0 1 [(.int .i64 0)] []),mT 6 0,o 7 (.append 1 (.t 5) (.t 6)),mT 2 7])
 .ret))) }
def C.slices_Clone_s_api_MeanOut_api_MeanOut : LFunc := { np := 1,res := [.tmp 2],keep := true,amb := true,body :=
 (.seq (.ops [mC 2 (.cl [])])
 (.seq (.seq (.ops [mT 3 0,o 4 (.bin .eql .slice (.t 3) (.c (.es true)))])
 (.cond (.t 4)
 (.seq (.ops [mC 2 (.cl [])])
 .ret)
 .skip))
 (.seq (.ops [o 5 (.bslice 0 2 [(.int .i64 0),(.int .i64 0)] []),mT 6 0,o 7 (.append 2 (.t 5) (.t 6)),mT 2 7])
 .ret))) }
def C.slices_Clone_s_api_MeanVal_api_MeanVal : LFunc := { np := 1,res := [.tmp 2],keep := true,amb := true,body :=
 (.seq (.ops [mC 2 (.cl [])])
 (.seq (.seq (.ops [mT 3 0,o 4 (.bin .eql .slice (.t 3) (.c (.es true)))])
 (.cond (.t 4)
 (.seq (.ops [mC 2 (.cl [])])
 .ret)
 .skip))
 (.seq (.ops [o 5 (.bslice 0 2 [(.int .i64 0),(.int .i64 0)] []),mT 6 0,o 7 (.append 2 (.t 5) (.t 6)),mT 2 7])
 .ret))) }
def C.past_player_turns_c1 : LFunc := { np := 4,res := [],keep := false,body :=
 (.seq (.seq (.ops [l1 9 1,l1 10 2,bN 11 .geq (.t 9) (.t 10)])
 (.cond (.t 11)
 .ret
 .skip))
 (.seq (.opsP [l1 12 3,l1 13 1,cL 14 F.past_player_at [(.t 12),(.t 13)],o 5 (.alloc [(.cl []),(.cl []),(.cl []),(.cl []),(.int .i64 0)]),sT 5 5 14])
 (.seq (.ops [l1 15 1,mT 6 15])
 (.block 0 (.loop (.seq (.seq (.ops [mT 16 6,l1 17 2,bN 18 .lss (.t 16) (.t 17)])
 (.cond (.t 18)
 .skip
 (.exit 0)))
 (.seq (.block 1 (.seq (.seq (.ops [l1 21 3,mT 22 6,cL 23 F.past_player_marked [(.t 21),(.t 22)]])
 (.cond (.t 23)
 (.draw [l1 24 3,nK 25 24,fA 26 0 25,fA 27 2 26,l1 28 27,mT 29 6,l1 30 3,nK 31 30,fA 32 0 31,fA 33 0 32,l1 34 33,bN 35 .quo (.t 29) (.t 34),iA 36 5 28 35,lT 37 5 36,
 sT 5 5 37]
 [])
 .skip))
 (.seq (.drawP [l1 39 3,lT 40 5 5,l1 41 3,nK 42 41,fA 43 0 42,fA 44 1 43,l1 45 44,mT 46 6,iA 47 1 45 46,l1 48 47,cL 49 F.past_player_turn [(.t 39),(.t 40),(.t 48)],
 mT 38 49,o 50 (.ext 0 (.t 38)),o 51 (.ext 1 (.t 38)),o 7 (.alloc [(.cl []),(.cl []),(.cl []),(.cl []),(.int .i64 0)]),
 o 8 (.alloc [(.int .i64 0),(.int .i64 0),(.int .i64 0),(.int .i64 0),(.int .i64 0)]),sT 5 7 50,sT 5 8 51]
 [[],[],[],[2],[3,2],[4,3,2],[5,4,3,2],[],[6,7,5,4,3,2],[8,6,7,5,4,3,2],[0,1,9,8,6,7,5,4,3,2],[10,0,1,9,8,6,7,5,4,3,2],[11,10,0,1,9,8,6,7,5,4,3,2],[11,10,0,1,9,8,6,7,5,4,3,2],[],[],[14,12,10,0,1,2,3,4,5,6,7,8,9,11,15],[15,13,16,0,1,2,3,4,5,6,7,8,9,10,11,12,14]]
 [(0,14),(1,14),(2,14),(6,14),(8,14),(9,14),(10,14),(0,15),(1,15),(2,15),(6,15),(8,15),(9,15),(10,15),(14,15)])
 (.seq (.seq (.ops [mT 52 0,mT 53 6,lT 54 5 5,lT 55 5 7,lT 56 5 8,
 o 57 (.build ([(.cl []),(.cl []),(.cl []),(.cl []),(.int .i64 0),(.cl []),(.cl []),(.cl []),(.cl []),(.int .i64 0),(.int .i64 0),(.int .i64 0),(.int .i64 0),(.int .i64 0),(.int .i64 0)]) [(0,5,(.t 54)),(5,5,(.t 55)),(10,5,(.t 56))]),
 o 58 (.icall (.t 52) [(.t 53),(.t 57)]),nT 59 58])
 (.cond (.t 59)
 .ret
 .skip))
 (.ops [lT 60 5 7,sT 5 5 60])))))
 (.ops [mT 19 6,bN 20 .add (.t 19) (cI 1),mT 6 20])))))))) }
def C.mean_running : LFunc := { np := 2,res := [.tmp 4,.tmp 5],keep := false,body :=
 (.seq (.ops [bX 2 4 0,bX 3 5 1,mC 4 .nilp,mC 5 (.bool false)])
 (.seq (.seq (.ops [lT 7 4 2,cL 8 F.bind_Check [(.t 7)],bN 9 .neq (.t 8) (cI 0)])
 (.cond (.t 9)
 (.seq (.ops [mC 4 .nilp,mC 5 (.bool false)])
 .ret)
 .skip))
 (.seq (.ops [lT 10 4 2,lT 11 5 3,
 o 12 (.build ([(.cl []),(.cl []),(.int .i64 0),(.cl []),(.cl []),(.cl []),(.cl []),(.cl []),(.int .i64 0)]) [(0,4,(.t 10)),(4,5,(.t 11))]),bX 13 9 12,mT 6 13])
 (.seq (.ops [mT 14 6,mT 15 6,cL 16 F.mean_runner_world [(.t 15)],mT 4 14,mT 5 16])
 .ret)))) }
def C.mean_within : LFunc := { np := 3,res := [.tmp 6],keep := false,body :=
 (.seq (.ops [mC 6 (.bool false)])
 (.seq (.ops [mT 7 0,mT 8 1,bN 9 .geq (.t 7) (.t 8),mT 10 9,gM 11 10 true 0,gM 12 10 true 2,gB 13 10 true .leq (.t 11) (.t 12),pA 14 10 13,mT 6 14])
 .ret)) }
def C.mean_runner_step : LFunc := { np := 2,res := [.cell 4 false 1],keep := false,body :=
 (.seq (.ops [bX 2 1 0,bX 3 1 1,o 4 (.alloc [.nili])])
 (.seq (.draw [l1 8 2,nK 9 8,fA 10 4 9,fA 11 0 10,l1 12 11,l1 13 2,nK 14 13,fA 15 4 14,fA 16 1 15,l1 17 16,l1 18 3,iA 19 1 17 18,l1 20 19,iA 21 4 12 20,lT 22 4 21,
 o 5 (.alloc [(.int .i64 0),(.int .i64 0),(.cl []),(.cl [])]),sT 4 5 22]
 [(0,15),(4,15),(5,15),(9,15),(10,15),(11,15),(12,15),(13,15),(14,15)])
 (.seq (.seq (.ops [fA 23 1 5,l1 24 23,bN 25 .neq (.t 24) (cI 0)])
 (.cond (.t 25)
 (.seq (.ops [o 26 (.build [] []),o 27 (.iface 244 (.t 26)),sT 1 4 27])
 .ret)
 .skip))
 (.seq (.seq (.ops [fA 28 3 5,l1 29 28,lN 30 29,bN 31 .eql (.t 30) (cI 0)])
 (.cond (.t 31)
 (.seq (.ops [l1 32 2,l1 33 3,fA 34 2 5,l1 35 34,o 36 (.build [(.int .i64 0),(.int .i64 0),(.cl []),(.cl [])] [(0,1,(cI 6)),(1,1,(cI 1)),(2,1,(.t 35))]),
 o 37 (.icall (.f F.mean_runner_finish) [(.t 32),(.t 33),(.t 36)])])
 (.seq (.draw [l1 38 3,fA 39 2 5,l1 40 39,o 41 (.ia 2 (.t 40) (cI 0)),lT 42 2 41,cL 43 F.mean_masked [(.t 42)],
 o 44 (.build [(.int .i64 0),(.int .i64 0),(.int .i64 0),(.int .i64 0),(.int .i64 0)] [(0,1,(.t 38)),(2,1,(cI 1)),(3,2,(.t 43))]),
 o 45 (.build [(.int .i64 0),(.int .i64 0),(.int .i64 0),(.int .i64 0),(.int .i64 0)] [(0,5,(.t 44))]),o 46 (.iface 247 (.t 45)),sT 1 4 46]
 [(0,5)])
 .ret))
 .skip))
 (.seq (.ops [l1 47 2,nK 48 47,fA 49 4 48,lT 50 5 49,o 6 (.alloc [(.cl []),(.cl []),(.cl []),(.cl []),(.int .i64 0)]),sT 5 6 50])
 (.dfr [4] [o 51 (.mkfn F.mean_runner_step_c1 [] [(.t 6),(.t 2),(.t 3),(.t 4)])]
 (.t 51) []
 (.seq (.ops [l1 52 2,l1 53 3,
 o 54 (.build ([.nilp,(.int .i64 0),(.cl []),(.int .i64 0),(.cl []),(.cl []),(.int .i64 0),(.int .i64 0),(.cl []),(.cl []),(.cl [])]) [(0,1,(.t 52)),(1,1,(.t 53))]),
 bX 55 11 54,mT 7 55])
 (.seq (.opsP [mT 56 7,lT 57 4 5,o 58 (.icall (.f F.mean_turner_made) [(.t 56),(.t 57)]),sT 1 4 58])
 (.seq (.seq (.ops [l1 59 4,cL 60 F.mean_rank [(.t 59)],bN 61 .neq (.t 60) (cI 2)])
 (.cond (.t 61)
 (.draw [l1 62 2,l1 63 3,mT 64 7,nK 65 64,fA 66 2 65,l1 67 66,mT 68 7,nK 69 68,fA 70 10 69,l1 71 70,
 o 72 (.build [(.int .i64 0),(.int .i64 0),(.cl []),(.cl [])] [(0,1,(cI 6)),(3,1,(.t 67)),(2,1,(.t 71))]),
 o 73 (.icall (.f F.mean_runner_finish) [(.t 62),(.t 63),(.t 72)])]
 [])
 .skip))
 (.seq (.ops [l1 74 4,sT 1 4 74])
 .ret)))))))))) }
def C.mean_rank : LFunc := { np := 1,res := [.tmp 2],keep := false,body :=
 (.seq (.ops [mC 2 (.int .i64 0)])
 (.seq (.seq (.ops [mT 3 0])
 (.block 0 (.seq (.ops [o 4 (.assert 255 (.agg []) true (.t 3)),o 5 (.ext 1 (.t 4)),o 6 (.ext 0 (.t 4))])
 (.cond (.t 5)
 (.seq (.ops [mC 2 (.int .i64 0)])
 .ret)
 (.seq (.ops [o 7 (.assert 244 (.agg []) true (.t 3)),o 8 (.ext 1 (.t 7)),o 9 (.ext 0 (.t 7))])
 (.cond (.t 8)
 (.seq (.ops [mC 2 (.int .i64 2)])
 .ret)
 .skip))))))
 (.seq (.ops [mC 2 (.int .i64 1)])
 .ret))) }
def C.mean_runner_copied : LFunc := { np := 1,res := [.cell 2 true 5],keep := false,body :=
 (.seq (.ops [o 2 (.alloc [(.cl []),(.cl []),(.cl []),(.cl []),(.int .i64 0)])])
 (.seq (.draw [mT 6 0,nK 7 6,fA 8 4 7,fA 9 1 8,l1 10 9,cL 11 F.slices_Clone_s_int_int [(.t 10)],mT 12 0,nK 13 12,fA 14 4 13,fA 15 2 14,l1 16 15,
 cL 17 F.slices_Clone_s_api_MeanOut_api_MeanOut [(.t 16)],mT 18 0,nK 19 18,fA 20 4 19,fA 21 3 20,l1 22 21,cL 23 F.slices_Clone_s_int_int [(.t 22)],mT 24 0,nK 25 24,
 fA 26 4 25,fA 27 4 26,l1 28 27,o 29 (.build [(.cl []),(.cl []),(.cl []),(.cl []),(.int .i64 0)] [(1,1,(.t 11)),(2,1,(.t 17)),(3,1,(.t 23)),(4,1,(.t 28))]),
 o 3 (.alloc [(.cl []),(.cl []),(.cl []),(.cl []),(.int .i64 0)]),sT 5 3 29]
 [(5,10),(5,16),(11,16),(5,22),(11,22),(17,22),(4,24),(5,24),(10,24),(11,24),(16,24),(17,24),(22,24)])
 (.seq (.seq (.ops [mT 30 0,nK 31 30,fA 32 4 31,fA 33 0 32,l1 34 33,lN 35 34,mC 36 (.int .i64 0)])
 (.block 0 (.loop (.seq (.ops [bN 37 .lss (.t 36) (.t 35)])
 (.seq (.cond (.t 37)
 .skip
 (.exit 0))
 (.seq (.block 1 (.seq (.ops [iA 38 4 34 36,lT 39 4 38,o 5 (.alloc [(.int .i64 0),(.int .i64 0),(.cl []),(.cl [])]),sT 4 5 39])
 (.draw [fA 40 0 3,l1 41 40,lT 42 4 5,cL 43 F.mean_mapped [(.t 42),(.f F.mean_runner_copied_c1)],
 o 44 (.bslice 1 4 [(.int .i64 0),(.int .i64 0),(.cl []),(.cl [])] [(0,(.t 43))]),o 45 (.append 4 (.t 41) (.t 44)),fA 46 0 3,sT 1 46 45]
 [(1,3),(1,4)])))
 (.ops [bN 47 .add (.t 36) (cI 1),mT 36 47])))))))
 (.seq (.ops [lT 48 5 3,sT 5 2 48])
 .ret)))) }
def C.R06_set : LFunc := { np := 3,res := [.cell 6 true 5],keep := false,body :=
 (.seq (.ops [bX 3 5 0,bX 5 4 2,o 6 (.alloc [(.cl []),(.cl []),(.cl []),(.cl []),(.int .i64 0)])])
 (.seq (.ops [lT 7 5 3,o 8 (.icall (.f F.R06_Copy) [(.t 7)]),sT 5 3 8])
 (.seq (.ops [fA 9 0 3,l1 10 9,mT 11 1,lT 12 4 5,iA 13 4 10 11,sT 4 13 12])
 (.seq (.ops [lT 14 5 3,sT 5 6 14])
 .ret)))) }
def C.R06_Masked : LFunc := { np := 1,res := [.cell 2 true 2],keep := false,body :=
 (.seq (.ops [bX 1 2 0,o 2 (.alloc [(.int .i64 0),(.int .i64 0)])])
 (.seq (.seq (.ops [fA 3 0 1,l1 4 3,bN 5 .eql (.t 4) (cI 4),mT 6 5,gF 7 6 false 0 1,g1 8 6 false 7,gB 9 6 false .eql (.t 8) (cI 5),pO 10 6 9])
 (.cond (.t 10)
 (.seq (.ops [cL 11 F.R06_Ref [(cI 0)],sT 2 2 11])
 .ret)
 .skip))
 (.seq (.ops [lT 12 2 1,sT 2 2 12])
 .ret))) }
def C.R06_more : LFunc := { np := 2,res := [.tmp 4],keep := false,body :=
 (.seq (.ops [bX 3 2 1,mC 4 (.cl [])])
 (.seq (.draw [mT 5 0,o 6 (.append 2 (.c (.cl [])) (.t 5)),lT 7 2 3,o 8 (.bslice 1 2 [(.int .i64 0),(.int .i64 0)] [(0,(.t 7))]),o 9 (.append 2 (.t 6) (.t 8)),mT 4 9]
 [(1,2),(1,3)])
 .ret)) }
def C.R06_Asks : LFunc := { np := 1,res := [.tmp 2],keep := false,body :=
 (.seq (.ops [bX 1 4 0,mC 2 (.int .i64 0)])
 (.seq (.seq (.ops [fA 3 0 1,l1 4 3])
 (.block 0 (.seq (.seq (.ops [bN 6 .eql (.t 4) (cI 6),mT 5 6])
 (.cond (.t 5)
 .skip
 (.seq (.ops [bN 7 .eql (.t 4) (cI 9),mT 5 7])
 (.cond (.t 5)
 .skip
 (.seq (.ops [bN 8 .eql (.t 4) (cI 10),mT 5 8])
 (.cond (.t 5)
 .skip
 (.seq (.ops [bN 9 .eql (.t 4) (cI 11),mT 5 9])
 (.cond (.t 5)
 .skip
 (.seq (.ops [bN 10 .eql (.t 4) (cI 12),mT 5 10])
 (.cond (.t 5)
 .skip
 (.seq (.ops [bN 11 .eql (.t 4) (cI 13),mT 5 11])
 (.cond (.t 5)
 .skip
 (.seq (.ops [bN 12 .eql (.t 4) (cI 18),mT 5 12])
 (.cond (.t 5)
 .skip
 (.ops [bN 13 .eql (.t 4) (cI 22),mT 5 13])))))))))))))))
 (.cond (.t 5)
 (.seq (.ops [mC 2 (.int .i64 2)])
 .ret)
 (.seq (.ops [bN 15 .eql (.t 4) (cI 14),mT 14 15])
 (.cond (.t 14)
 (.seq (.ops [fA 16 2 1,l1 17 16,lN 18 17,mT 2 18])
 .ret)
 (.seq (.seq (.ops [bN 20 .eql (.t 4) (cI 7),mT 19 20])
 (.cond (.t 19)
 .skip
 (.seq (.ops [bN 21 .eql (.t 4) (cI 8),mT 19 21])
 (.cond (.t 19)
 .skip
 (.seq (.ops [bN 22 .eql (.t 4) (cI 15),mT 19 22])
 (.cond (.t 19)
 .skip
 (.seq (.ops [bN 23 .eql (.t 4) (cI 16),mT 19 23])
 (.cond (.t 19)
 .skip
 (.seq (.ops [bN 24 .eql (.t 4) (cI 17),mT 19 24])
 (.cond (.t 19)
 .skip
 (.seq (.ops [bN 25 .eql (.t 4) (cI 19),mT 19 25])
 (.cond (.t 19)
 .skip
 (.seq (.ops [bN 26 .eql (.t 4) (cI 20),mT 19 26])
 (.cond (.t 19)
 .skip
 (.seq (.ops [bN 27 .eql (.t 4) (cI 23),mT 19 27])
 (.cond (.t 19)
 .skip
 (.seq (.ops [bN 28 .eql (.t 4) (cI 24),mT 19 28])
 (.cond (.t 19)
 .skip
 (.ops [bN 29 .eql (.t 4) (cI 26),mT 19 29])))))))))))))))))))
 (.cond (.t 19)
 (.seq (.ops [mC 2 (.int .i64 1)])
 .ret)
 .skip))))))))
 (.seq (.ops [mC 2 (.int .i64 0)])
 .ret))) }
def C.R06_onto : LFunc := { np := 5,res := [.cell 10 true 11],keep := false,body :=
 (.seq (.ops [bX 5 5 0,
 o 10 (.alloc ([(.cl []),(.cl []),(.cl []),(.cl []),(.int .i64 0),(.int .i64 0),(.int .i64 0),(.int .i64 0),(.int .i64 0),(.int .i64 0),(.int .i64 0)]))])
 (.seq (.seq (.ops [mT 12 2,lN 13 12,bN 14 .geq (.t 13) (cI 40),mT 15 14,gM 16 15 false 4,gN 17 15 false 16,gB 18 15 false .gtr (.t 17) (cI 30),pO 19 15 18])
 (.cond (.t 19)
 (.seq (.ops [lT 20 5 5,mT 21 1,cL 22 F.R06_fails [(.t 20),(.t 21),(cI 4)],sT 11 10 22])
 .ret)
 .skip))
 (.seq (.ops [mT 23 2,o 24 (.append 3 (.c (.cl [])) (.t 23)),mT 25 3,mT 26 4,o 27 (.build [(.int .i64 0),(.cl []),(.cl [])] [(0,1,(.t 25)),(1,1,(.t 26))]),
 o 28 (.bslice 1 3 [(.int .i64 0),(.cl []),(.cl [])] [(0,(.t 27))]),o 29 (.append 3 (.t 24) (.t 28)),mT 11 29])
 (.seq (.draw [lT 30 5 5,fA 31 1 5,l1 32 31,mT 33 1,iA 34 1 32 33,l1 35 34,mT 36 11,
 o 37 (.build [(.int .i64 0),(.int .i64 0),(.cl []),(.cl [])] [(0,1,(cI 6)),(3,1,(.t 36))]),cL 38 F.R06_set [(.t 30),(.t 35),(.t 37)],
 o 39 (.build ([(.cl []),(.cl []),(.cl []),(.cl []),(.int .i64 0),(.int .i64 0),(.int .i64 0),(.int .i64 0),(.int .i64 0),(.int .i64 0),(.int .i64 0)]) [(0,5,(.t 38))]),
 sT 11 10 39]
 [])
 .ret)))) }
def C.R06_does : LFunc := { np := 5,res := [.cell 10 true 11],keep := false,body :=
 (.seq (.ops [bX 5 4 0,bX 6 5 1,bX 9 3 4,
 o 10 (.alloc ([(.cl []),(.cl []),(.cl []),(.cl []),(.int .i64 0),(.int .i64 0),(.int .i64 0),(.int .i64 0),(.int .i64 0),(.int .i64 0),(.int .i64 0)]))])
 (.seq (.draw [fA 13 0 5,l1 14 13,fA 15 0 9,l1 16 15,iA 17 4 14 16,lT 18 4 17,fA 19 2 9,l1 20 19,o 11 (.alloc [(.int .i64 0),(.int .i64 0),(.cl []),(.cl [])]),
 sT 4 11 18,mT 12 20]
 [(1,8),(3,8),(4,8),(5,8),(7,8),(7,9)])
 (.seq (.seq (.ops [fA 21 0 11,l1 22 21])
 (.block 0 (.seq (.ops [bN 24 .eql (.t 22) (cI 1),mT 23 24])
 (.cond (.t 23)
 (.seq (.draw [lT 25 5 6,mT 26 2,mT 27 3,fA 28 1 11,l1 29 28,cL 30 F.R06_Int [(.t 29)],cL 31 F.R06_back [(.t 25),(.t 26),(.t 27),(.t 30)],sT 11 10 31]
 [(0,5)])
 .ret)
 (.seq (.ops [bN 33 .eql (.t 22) (cI 2),mT 32 33])
 (.cond (.t 32)
 (.seq (.draw [lT 34 5 6,mT 35 2,mT 36 3,fA 37 1 11,l1 38 37,bN 39 .eql (.t 38) (cI 1),cL 40 F.R06_Bool [(.t 39)],cL 41 F.R06_back [(.t 34),(.t 35),(.t 36),(.t 40)],
 sT 11 10 41]
 [(0,6)])
 .ret)
 (.seq (.ops [bN 43 .eql (.t 22) (cI 3),mT 42 43])
 (.cond (.t 42)
 (.seq (.draw [lT 44 5 6,mT 45 2,mT 46 3,cL 47 F.R06_Unit [],cL 48 F.R06_back [(.t 44),(.t 45),(.t 46),(.t 47)],sT 11 10 48]
 [(0,3)])
 .ret)
 (.seq (.ops [bN 50 .eql (.t 22) (cI 4),mT 49 50])
 (.cond (.t 49)
 (.seq (.seq (.ops [fA 51 1 11,l1 52 51,bN 53 .lss (.t 52) (cI 0)])
 (.cond (.t 53)
 (.seq (.ops [lT 54 5 6,mT 55 2,mT 56 3,fA 57 1 11,l1 58 57,bN 59 .sub (cI (-1)) (.t 58),o 60 (.build [(.int .i64 0),(.int .i64 0)] [(0,1,(cI 4)),(1,1,(.t 59))]),
 cL 61 F.R06_back [(.t 54),(.t 55),(.t 56),(.t 60)],sT 11 10 61])
 .ret)
 .skip))
 (.seq (.seq (.ops [fA 62 1 11,l1 63 62,fA 64 1 9,l1 65 64,lN 66 65,bN 67 .geq (.t 63) (.t 66)])
 (.cond (.t 67)
 (.seq (.ops [lT 68 5 6,mT 69 2,cL 70 F.R06_fails [(.t 68),(.t 69),(cI 2)],sT 11 10 70])
 .ret)
 .skip))
 (.seq (.draw [lT 71 5 6,mT 72 2,mT 73 3,fA 74 1 9,l1 75 74,fA 76 1 11,l1 77 76,iA 78 2 75 77,lT 79 2 78,cL 80 F.R06_back [(.t 71),(.t 72),(.t 73),(.t 79)],sT 11 10 80]
 [])
 .ret)))
 (.seq (.ops [bN 82 .eql (.t 22) (cI 5),mT 81 82])
 (.cond (.t 81)
 (.seq (.ops [lT 83 5 6,mT 84 2,mT 85 3,fA 86 0 9,l1 87 86,fA 88 1 9,l1 89 88,
 o 90 (.build [(.int .i64 0),(.int .i64 0),(.cl []),(.cl [])] [(0,1,(cI 2)),(1,1,(.t 87)),(2,1,(.t 89))]),cL 91 F.R06_made [(.t 83),(.t 84),(.t 85),(.t 90)],
 sT 11 10 91])
 .ret)
 (.seq (.ops [bN 93 .eql (.t 22) (cI 6),mT 92 93])
 (.cond (.t 92)
 (.seq (.draw [lT 94 4 5,lT 95 5 6,mT 96 2,mT 97 3,mT 98 12,o 99 (.ia 2 (.t 98) (cI 0)),lT 100 2 99,mT 101 12,o 102 (.ia 2 (.t 101) (cI 1)),lT 103 2 102,
 cL 104 F.R06_applied [(.t 94),(.t 95),(.t 96),(.t 97),(.t 100),(.t 103)],sT 11 10 104]
 [])
 .ret)
 (.seq (.ops [bN 106 .eql (.t 22) (cI 7),mT 105 106])
 (.cond (.t 105)
 (.seq (.draw [lT 107 5 6,mT 108 2,mT 109 3,fA 110 2 11,l1 111 110,o 112 (.ia 1 (.t 111) (cI 1)),l1 113 112,fA 114 1 9,l1 115 114,mT 116 12,
 o 117 (.ia 2 (.t 116) (cI 0)),lT 118 2 117,cL 119 F.R06_more [(.t 115),(.t 118)],cL 120 F.R06_onto [(.t 107),(.t 108),(.t 109),(.t 113),(.t 119)],sT 11 10 120]
 [(0,12),(4,12),(5,12),(6,12)])
 .ret)
 (.seq (.ops [bN 122 .eql (.t 22) (cI 8),mT 121 122])
 (.cond (.t 121)
 (.seq (.seq (.ops [mT 123 12,o 124 (.ia 2 (.t 123) (cI 0)),fA 125 0 124,l1 126 125,bN 127 .neq (.t 126) (cI 2)])
 (.cond (.t 127)
 (.seq (.ops [lT 128 5 6,mT 129 2,cL 130 F.R06_fails [(.t 128),(.t 129),(cI 2)],sT 11 10 130])
 .ret)
 .skip))
 (.seq (.draw [lT 131 5 6,mT 132 2,mT 133 3,fA 134 2 11,l1 135 134,mT 136 12,o 137 (.ia 2 (.t 136) (cI 0)),fA 138 1 137,l1 139 138,bN 140 .sub (cI 2) (.t 139),
 iA 141 1 135 140,l1 142 141,fA 143 1 9,l1 144 143,cL 145 F.R06_onto [(.t 131),(.t 132),(.t 133),(.t 142),(.t 144)],sT 11 10 145]
 [])
 .ret))
 (.seq (.seq (.ops [bN 147 .eql (.t 22) (cI 9),mT 146 147])
 (.cond (.t 146)
 .skip
 (.seq (.ops [bN 148 .eql (.t 22) (cI 10),mT 146 148])
 (.cond (.t 146)
 .skip
 (.seq (.ops [bN 149 .eql (.t 22) (cI 11),mT 146 149])
 (.cond (.t 146)
 .skip
 (.seq (.ops [bN 150 .eql (.t 22) (cI 12),mT 146 150])
 (.cond (.t 146)
 .skip
 (.ops [bN 151 .eql (.t 22) (cI 13),mT 146 151])))))))))
 (.cond (.t 146)
 (.seq (.draw [lT 152 5 6,mT 153 2,mT 154 3,fA 155 0 11,l1 156 155,mT 157 12,o 158 (.ia 2 (.t 157) (cI 0)),lT 159 2 158,mT 160 12,o 161 (.ia 2 (.t 160) (cI 1)),
 lT 162 2 161,cL 163 F.R06_counted [(.t 152),(.t 153),(.t 154),(.t 156),(.t 159),(.t 162)],sT 11 10 163]
 [])
 .ret)
 (.seq (.ops [bN 165 .eql (.t 22) (cI 14),mT 164 165])
 (.cond (.t 164)
 (.seq (.ops [lT 166 5 6,mT 167 2,mT 168 3,fA 169 1 11,l1 170 169,mT 171 12,
 o 172 (.build [(.int .i64 0),(.int .i64 0),(.cl []),(.cl [])] [(0,1,(cI 1)),(1,1,(.t 170)),(2,1,(.t 171))]),cL 173 F.R06_made [(.t 166),(.t 167),(.t 168),(.t 172)],
 sT 11 10 173])
 .ret)
 (.seq (.ops [bN 175 .eql (.t 22) (cI 15),mT 174 175])
 (.cond (.t 174)
 (.seq (.draw [lT 176 5 6,mT 177 2,mT 178 3,lT 179 4 11,fA 180 1 9,l1 181 180,mT 182 12,o 183 (.ia 2 (.t 182) (cI 0)),lT 184 2 183,
 cL 185 F.R06_matched [(.t 176),(.t 177),(.t 178),(.t 179),(.t 181),(.t 184)],sT 11 10 185]
 [])
 .ret)
 (.seq (.ops [bN 187 .eql (.t 22) (cI 26),mT 186 187])
 (.cond (.t 186)
 (.seq (.draw [lT 188 5 6,mT 189 2,mT 190 3,mT 191 12,o 192 (.ia 2 (.t 191) (cI 0)),lT 193 2 192,cL 194 F.R06_back [(.t 188),(.t 189),(.t 190),(.t 193)],sT 11 10 194]
 [])
 .ret)
 (.seq (.ops [bN 196 .eql (.t 22) (cI 27),mT 195 196])
 (.cond (.t 195)
 (.seq (.draw [lT 197 4 5,lT 198 5 6,mT 199 2,mT 200 3,fA 201 2 11,l1 202 201,o 203 (.ia 1 (.t 202) (cI 0)),l1 204 203,fA 205 1 9,l1 206 205,
 cL 207 F.R06_shifted [(.t 197),(.t 198),(.t 199),(.t 200),(.t 204),(.t 206)],sT 11 10 207]
 [])
 .ret)
 (.seq (.seq (.ops [bN 209 .eql (.t 22) (cI 16),mT 208 209])
 (.cond (.t 208)
 .skip
 (.seq (.ops [bN 210 .eql (.t 22) (cI 17),mT 208 210])
 (.cond (.t 208)
 .skip
 (.ops [bN 211 .eql (.t 22) (cI 18),mT 208 211])))))
 (.cond (.t 208)
 (.seq (.ops [lT 212 5 6,mT 213 2,mT 214 3,fA 215 0 11,l1 216 215,mT 217 12,cL 218 F.R06_celled [(.t 212),(.t 213),(.t 214),(.t 216),(.t 217)],sT 11 10 218])
 .ret)
 (.seq (.ops [bN 220 .eql (.t 22) (cI 19),mT 219 220])
 (.cond (.t 219)
 (.seq (.draw [lT 221 4 5,lT 222 5 6,mT 223 2,mT 224 3,mT 225 12,o 226 (.ia 2 (.t 225) (cI 0)),lT 227 2 226,
 cL 228 F.R06_spawned [(.t 221),(.t 222),(.t 223),(.t 224),(.t 227)],sT 11 10 228]
 [])
 .ret)
 (.seq (.ops [bN 230 .eql (.t 22) (cI 20),mT 229 230])
 (.cond (.t 229)
 (.seq (.draw [lT 231 5 6,mT 232 2,mT 233 3,mT 234 12,o 235 (.ia 2 (.t 234) (cI 0)),lT 236 2 235,cL 237 F.R06_joined [(.t 231),(.t 232),(.t 233),(.t 236)],sT 11 10 237]
 [])
 .ret)
 (.seq (.ops [bN 239 .eql (.t 22) (cI 21),mT 238 239])
 (.cond (.t 238)
 (.seq (.draw [lT 240 5 6,mT 241 2,mT 242 3,o 243 (.build [(.int .i64 0),(.int .i64 0),(.cl []),(.cl [])] [(0,1,(cI 4))]),
 cL 244 F.R06_made [(.t 240),(.t 241),(.t 242),(.t 243)],mT 245 2,fA 246 0 11,l1 247 246,cL 248 F.R06_Unit [],
 cL 249 F.R06_event [(.t 244),(.t 245),(.t 247),(cI 0),(.t 248)],sT 11 10 249]
 [(4,7),(7,8)])
 .ret)
 (.seq (.seq (.ops [bN 251 .eql (.t 22) (cI 22),mT 250 251])
 (.cond (.t 250)
 .skip
 (.ops [bN 252 .eql (.t 22) (cI 23),mT 250 252])))
 (.cond (.t 250)
 (.seq (.ops [lT 253 5 6,mT 254 2,mT 255 3,fA 256 0 11,l1 257 256,mT 258 12,cL 259 F.R06_channeled [(.t 253),(.t 254),(.t 255),(.t 257),(.t 258)],sT 11 10 259])
 .ret)
 (.seq (.seq (.ops [bN 261 .eql (.t 22) (cI 24),mT 260 261])
 (.cond (.t 260)
 .skip
 (.ops [bN 262 .eql (.t 22) (cI 25),mT 260 262])))
 (.cond (.t 260)
 (.seq (.ops [lT 263 5 6,mT 264 2,mT 265 3,lT 266 4 11,mT 267 12,cL 268 F.R06_outside [(.t 263),(.t 264),(.t 265),(.t 266),(.t 267)],sT 11 10 268])
 .ret)
 .skip))))))))))))))))))))))))))))))))))))))))
 (.seq (.draw [lT 269 5 6,mT 270 2,mT 271 3,cL 272 F.R06_Unit [],cL 273 F.R06_back [(.t 269),(.t 270),(.t 271),(.t 272)],mT 274 2,cL 275 F.R06_Unit [],
 cL 276 F.R06_event [(.t 273),(.t 274),(cI 28),(cI 0),(.t 275)],sT 11 10 276]
 [(0,3)])
 .ret)))) }
def C.past_player_worlds_c1 : LFunc := { np := 3,res := [],keep := false,body :=
 (.seq (.opsP [l1 6 1,l1 7 2,cL 8 F.past_player_at [(.t 6),(.t 7)],o 4 (.alloc [(.cl []),(.cl []),(.cl []),(.cl []),(.int .i64 0)]),sT 5 4 8])
 (.seq (.ops [l1 9 2,mT 5 9])
 (.block 0 (.loop (.seq (.seq (.ops [mT 10 5,l1 11 1,nK 12 11,fA 13 0 12,fA 14 1 13,l1 15 14,lN 16 15,bN 17 .leq (.t 10) (.t 16)])
 (.cond (.t 17)
 .skip
 (.exit 0)))
 (.seq (.block 1 (.seq (.block 2 (.seq (.ops [l1 21 1,mT 22 5,cL 23 F.past_player_marked [(.t 21),(.t 22)],mT 20 23])
 (.cond (.t 20)
 (.draw [l1 24 1,nK 25 24,fA 26 0 25,fA 27 2 26,l1 28 27,mT 29 5,l1 30 1,nK 31 30,fA 32 0 31,fA 33 0 32,l1 34 33,bN 35 .quo (.t 29) (.t 34),iA 36 5 28 35,lT 37 5 36,
 sT 5 4 37]
 [])
 (.seq (.ops [mT 39 5,l1 40 2,bN 41 .gtr (.t 39) (.t 40),mT 38 41])
 (.cond (.t 38)
 (.drawP [l1 43 1,lT 44 5 4,l1 45 1,nK 46 45,fA 47 0 46,fA 48 1 47,l1 49 48,mT 50 5,bN 51 .sub (.t 50) (cI 1),iA 52 1 49 51,l1 53 52,
 cL 54 F.past_player_turn [(.t 43),(.t 44),(.t 53)],mT 42 54,o 55 (.ext 0 (.t 42)),o 56 (.ext 1 (.t 42)),sT 5 4 55]
 [[],[],[],[2],[3,2],[4,3,2],[5,4,3,2],[],[7],[6,8,5,4,3,2,7],[9,6,8,5,4,3,2,7],[0,1,10,9,6,8,5,4,3,2,7],[11,0,1,10,9,6,8,5,4,3,2,7],[12,11,0,1,10,9,6,8,5,4,3,2,7],[12,11,0,1,10,9,6,8,5,4,3,2,7],[13,11,0,1,2,3,4,5,6,7,8,9,10,12]]
 [])
 .skip)))))
 (.seq (.ops [mT 57 0,mT 58 5,lT 59 5 4,o 60 (.icall (.t 57) [(.t 58),(.t 59)]),nT 61 60])
 (.cond (.t 61)
 .ret
 .skip))))
 (.ops [mT 18 5,bN 19 .add (.t 18) (cI 1),mT 5 19]))))))) }
def C.mean_runner_settle : LFunc := { np := 2,res := [.tmp 4,.tmp 5],keep := false,body :=
 (.seq (.ops [mC 4 (.int .i64 0),mC 5 (.bool false)])
 (.seq .skip
 (.seq (.seq (.ops [mT 8 0,nK 9 8,fA 10 4 9,fA 11 1 10,l1 12 11,lN 13 12,mC 14 (.int .i64 0)])
 (.block 0 (.loop (.seq (.ops [bN 15 .lss (.t 14) (.t 13)])
 (.seq (.cond (.t 15)
 .skip
 (.exit 0))
 (.seq (.block 1 (.seq (.ops [mT 16 14,mT 6 16])
 (.block 2 (.loop (.block 3 (.seq (.ops [mT 17 0,nK 18 17,lT 19 9 18,
 o 7 (.alloc ([(.cl []),(.cl []),(.int .i64 0),(.cl []),(.cl []),(.cl []),(.cl []),(.cl []),(.int .i64 0)])),sT 9 7 19])
 (.seq (.seq (.ops [mT 20 6,o 21 (.icall (.f F.mean_runner_step) [(.t 7),(.t 20)]),cL 22 F.mean_rank [(.t 21)],bN 23 .neq (.t 22) (cI 0)])
 (.cond (.t 23)
 (.exit 1)
 .skip))
 (.seq (.ops [mT 24 1,bN 25 .add (.t 24) (cI 1),mT 1 25])
 (.seq (.seq (.ops [mT 26 1,bN 27 .gtr (.t 26) (cI 5000)])
 (.cond (.t 27)
 (.seq (.ops [mC 4 (.int .i64 0),mC 5 (.bool false)])
 .ret)
 .skip))
 (.ops [mT 28 0,lT 29 9 7,nK 30 28,sT 9 30 29]))))))))))
 (.ops [bN 31 .add (.t 14) (cI 1),mT 14 31])))))))
 (.seq (.ops [mT 32 1,mT 4 32,mC 5 (.bool true)])
 .ret)))) }
def C.R01_Differ : LFunc := { np := 1,res := [.tmp 2],keep := false,body :=
 (.seq (.ops [mC 2 (.bool false)])
 (.seq (.seq (.ops [mC 3 (.int .i64 0)])
 (.block 0 (.loop (.seq (.seq (.ops [mT 4 3,mT 5 0,lN 6 5,bN 7 .lss (.t 4) (.t 6)])
 (.cond (.t 7)
 .skip
 (.exit 0)))
 (.seq (.block 1 (.seq (.draw [mT 10 0,mT 11 3,o 12 (.slice false 1 (.t 10) none (some (.t 11)) none),mT 13 0,mT 14 3,iA 15 1 13 14,l1 16 15,
 cL 17 F.R01_Has [(.t 12),(.t 16)]]
 [])
 (.cond (.t 17)
 (.seq (.ops [mC 2 (.bool false)])
 .ret)
 .skip)))
 (.ops [mT 8 3,bN 9 .add (.t 8) (cI 1),mT 3 9]))))))
 (.seq (.ops [mC 2 (.bool true)])
 .ret))) }
def C.R05_kids : LFunc := { np := 3,res := [.tmp 6],keep := false,body :=
 (.seq (.ops [mC 6 (.int .i64 0)])
 (.seq (.seq (.ops [mT 7 0])
 (.block 0 (.seq (.seq (.ops [bN 9 .eql (.t 7) (cI 1),mT 8 9])
 (.cond (.t 8)
 .skip
 (.seq (.ops [bN 10 .eql (.t 7) (cI 2),mT 8 10])
 (.cond (.t 8)
 .skip
 (.seq (.ops [bN 11 .eql (.t 7) (cI 3),mT 8 11])
 (.cond (.t 8)
 .skip
 (.seq (.ops [bN 12 .eql (.t 7) (cI 4),mT 8 12])
 (.cond (.t 8)
 .skip
 (.seq (.ops [bN 13 .eql (.t 7) (cI 21),mT 8 13])
 (.cond (.t 8)
 .skip
 (.seq (.ops [bN 14 .eql (.t 7) (cI 25),mT 8 14])
 (.cond (.t 8)
 .skip
 (.ops [bN 15 .eql (.t 7) (cI 28),mT 8 15])))))))))))))
 (.cond (.t 8)
 (.seq (.ops [mC 6 (.int .i64 0)])
 .ret)
 (.seq (.seq (.ops [bN 17 .eql (.t 7) (cI 5),mT 16 17])
 (.cond (.t 16)
 .skip
 (.seq (.ops [bN 18 .eql (.t 7) (cI 27),mT 16 18])
 (.cond (.t 16)
 .skip
 (.seq (.ops [bN 19 .eql (.t 7) (cI 16),mT 16 19])
 (.cond (.t 16)
 .skip
 (.seq (.ops [bN 20 .eql (.t 7) (cI 17),mT 16 20])
 (.cond (.t 16)
 .skip
 (.seq (.ops [bN 21 .eql (.t 7) (cI 19),mT 16 21])
 (.cond (.t 16)
 .skip
 (.seq (.ops [bN 22 .eql (.t 7) (cI 20),mT 16 22])
 (.cond (.t 16)
 .skip
 (.seq (.ops [bN 23 .eql (.t 7) (cI 23),mT 16 23])
 (.cond (.t 16)
 .skip
 (.seq (.ops [bN 24 .eql (.t 7) (cI 26),mT 16 24])
 (.cond (.t 16)
 .skip
 (.ops [bN 25 .eql (.t 7) (cI 24),mT 16 25])))))))))))))))))
 (.cond (.t 16)
 (.seq (.ops [mC 6 (.int .i64 1)])
 .ret)
 (.seq (.seq (.ops [bN 27 .eql (.t 7) (cI 6),mT 26 27])
 (.cond (.t 26)
 .skip
 (.seq (.ops [bN 28 .eql (.t 7) (cI 7),mT 26 28])
 (.cond (.t 26)
 .skip
 (.seq (.ops [bN 29 .eql (.t 7) (cI 9),mT 26 29])
 (.cond (.t 26)
 .skip
 (.seq (.ops [bN 30 .eql (.t 7) (cI 10),mT 26 30])
 (.cond (.t 26)
 .skip
 (.seq (.ops [bN 31 .eql (.t 7) (cI 11),mT 26 31])
 (.cond (.t 26)
 .skip
 (.seq (.ops [bN 32 .eql (.t 7) (cI 12),mT 26 32])
 (.cond (.t 26)
 .skip
 (.seq (.ops [bN 33 .eql (.t 7) (cI 13),mT 26 33])
 (.cond (.t 26)
 .skip
 (.seq (.ops [bN 34 .eql (.t 7) (cI 18),mT 26 34])
 (.cond (.t 26)
 .skip
 (.ops [bN 35 .eql (.t 7) (cI 22),mT 26 35])))))))))))))))))
 (.cond (.t 26)
 (.seq (.ops [mC 6 (.int .i64 2)])
 .ret)
 (.seq (.ops [bN 37 .eql (.t 7) (cI 8),mT 36 37])
 (.cond (.t 36)
 (.seq (.ops [mC 6 (.int .i64 3)])
 .ret)
 (.seq (.ops [bN 39 .eql (.t 7) (cI 15),mT 38 39])
 (.cond (.t 38)
 (.seq (.ops [mT 40 1,bN 41 .add (cI 1) (.t 40),mT 6 41])
 .ret)
 (.seq (.ops [bN 43 .eql (.t 7) (cI 14),mT 42 43])
 (.cond (.t 42)
 (.seq (.ops [mT 44 2,mT 6 44])
 .ret)
 .skip))))))))))))))
 (.seq (.ops [mC 6 (.int .i64 (-1))])
 .ret))) }
def C.R06_listed : LFunc := { np := 2,res := [.tmp 4],keep := false,body :=
 (.seq (.ops [mC 4 (.bool false)])
 (.seq (.seq (.ops [mC 5 (.int .i64 0)])
 (.block 0 (.loop (.seq (.seq (.ops [mT 6 5,mT 7 0,lN 8 7,bN 9 .lss (.t 6) (.t 8)])
 (.cond (.t 9)
 .skip
 (.exit 0)))
 (.seq (.block 1 (.seq (.ops [mT 12 0,mT 13 5,iA 14 1 12 13,l1 15 14,mT 16 1,bN 17 .eql (.t 15) (.t 16)])
 (.cond (.t 17)
 (.seq (.ops [mC 4 (.bool true)])
 .ret)
 .skip)))
 (.ops [mT 10 5,bN 11 .add (.t 10) (cI 1),mT 5 11]))))))
 (.seq (.ops [mC 4 (.bool false)])
 .ret))) }
def C.R06_task : LFunc := { np := 3,res := [.tmp 6],keep := false,body :=
 (.seq (.ops [bX 3 4 0,bX 4 5 1,bX 5 4 2,mC 6 (.bool false)])
 (.seq (.seq (.ops [fA 8 1 5,l1 9 8])
 (.block 0 (.seq (.ops [bN 11 .eql (.t 9) (cI 0),mT 10 11])
 (.cond (.t 10)
 (.seq (.ops [fA 12 3 5,l1 13 12,lN 14 13,mT 7 14])
 (.seq (.ops [lT 15 4 3,lT 16 5 4,fA 17 3 5,l1 18 17,cL 19 F.R06_frames [(.t 15),(.t 16),(.t 18)],mT 20 19,gT 21 20 true 4 3,gT 22 20 true 5 4,gF 23 20 true 2 5,
 g1 24 20 true 23,gL 25 20 true F.R06_values [(.t 21),(.t 22),(.t 24),(cI 1)],pA 26 20 25,mT 27 26,gM 28 27 true 7,gF 29 27 true 2 5,g1 30 27 true 29,gN 31 27 true 30,
 gB 32 27 true .add (.t 28) (.t 31),gB 33 27 true .gtr (.t 32) (cI 0),pA 34 27 33,mT 35 34,gT 36 35 true 4 3,gF 37 35 true 3 5,g1 38 35 true 37,gM 39 35 true 7,
 gM 40 35 true 7,gB 41 35 true .sub (.t 40) (cI 1),gF 42 35 true 2 5,g1 43 35 true 42,gN 44 35 true 43,gB 45 35 true .add (.t 41) (.t 44),
 og 46 35 true (.minmax true [(cI 0),(.t 45)]),og 47 35 true (.minmax false [(.t 39),(.t 46)]),gL 48 35 true F.R06_Open [(.t 36),(.t 38),(.t 47)],pA 49 35 48,mT 6 49])
 .ret))
 (.seq (.ops [bN 51 .eql (.t 9) (cI 1),mT 50 51])
 (.cond (.t 50)
 (.seq (.ops [fA 52 3 5,l1 53 52,lN 54 53,bN 55 .eql (.t 54) (cI 0),mT 56 55,gF 57 56 true 2 5,g1 58 56 true 57,gN 59 56 true 58,gB 60 56 true .eql (.t 59) (cI 1),
 pA 61 56 60,mT 62 61,gT 63 62 true 4 3,gT 64 62 true 5 4,gF 65 62 true 2 5,g1 66 62 true 65,gL 67 62 true F.R06_values [(.t 63),(.t 64),(.t 66),(cI 1)],pA 68 62 67,
 mT 6 68])
 .ret)
 (.seq (.seq (.ops [bN 70 .eql (.t 9) (cI 2),mT 69 70])
 (.cond (.t 69)
 .skip
 (.seq (.ops [bN 71 .eql (.t 9) (cI 3),mT 69 71])
 (.cond (.t 69)
 .skip
 (.ops [bN 72 .eql (.t 9) (cI 4),mT 69 72])))))
 (.cond (.t 69)
 (.seq (.ops [fA 73 3 5,l1 74 73,lN 75 74,bN 76 .eql (.t 75) (cI 0),mT 77 76,gF 78 77 true 2 5,g1 79 77 true 78,gN 80 77 true 79,gB 81 77 true .eql (.t 80) (cI 0),
 pA 82 77 81,mT 6 82])
 .ret)
 .skip))))))))
 (.seq (.ops [mC 6 (.bool false)])
 .ret))) }
def C.R06_frames : LFunc := { np := 3,res := [.tmp 6],keep := false,body :=
 (.seq (.ops [bX 3 4 0,bX 4 5 1,mC 6 (.bool false)])
 (.seq (.seq (.ops [mC 7 (.int .i64 0)])
 (.block 0 (.loop (.seq (.seq (.ops [mT 9 7,mT 10 2,lN 11 10,bN 12 .lss (.t 9) (.t 11),mT 13 12,gM 14 13 true 7,gB 15 13 true .leq (.t 14) (cI 40),pA 16 13 15])
 (.cond (.t 16)
 .skip
 (.exit 0)))
 (.seq (.block 1 (.seq (.ops [mT 19 2,mT 20 7,iA 21 3 19 20,lT 22 3 21,o 8 (.alloc [(.int .i64 0),(.cl []),(.cl [])]),sT 3 8 22])
 (.seq (.draw [fA 23 0 8,l1 24 23,fA 25 0 3,l1 26 25,lN 27 26,bN 28 .sub (.t 27) (cI 1),cL 29 F.R06_in [(.t 24),(cI 0),(.t 28)],nT 30 29,mT 31 30,gT 32 31 false 4 3,
 gT 33 31 false 5 4,gF 34 31 false 1 8,g1 35 31 false 34,gL 36 31 false F.R06_values [(.t 32),(.t 33),(.t 35),(cI 30)],og 37 31 false (.un .not (.t 36)),pO 38 31 37,
 mT 39 38,gT 40 39 false 4 3,gT 41 39 false 5 4,gF 42 39 false 2 8,g1 43 39 false 42,gF 44 39 false 0 3,g1 45 39 false 44,gF 46 39 false 0 8,g1 47 39 false 46,
 og 48 39 false (.ia 4 (.t 45) (.t 47)),gT 49 39 false 4 48,gL 50 39 false F.R06_Asks [(.t 49)],gL 51 39 false F.R06_values [(.t 40),(.t 41),(.t 43),(.t 50)],
 og 52 39 false (.un .not (.t 51)),pO 53 39 52]
 [(17,27),(18,27),(20,27)])
 (.cond (.t 53)
 (.seq (.ops [mC 6 (.bool false)])
 .ret)
 .skip))))
 (.ops [mT 17 7,bN 18 .add (.t 17) (cI 1),mT 7 18]))))))
 (.seq (.ops [mT 54 2,lN 55 54,bN 56 .leq (.t 55) (cI 40),mT 6 56])
 .ret))) }
def C.R06_Open : LFunc := { np := 3,res := [.tmp 6],keep := false,body :=
 (.seq (.ops [bX 3 4 0,mC 6 (.bool false)])
 (.seq (.seq (.ops [mC 7 (.int .i64 0)])
 (.block 0 (.loop (.seq (.seq (.ops [mT 8 7,mT 9 2,bN 10 .lss (.t 8) (.t 9)])
 (.cond (.t 10)
 .skip
 (.exit 0)))
 (.seq (.block 1 (.seq (.draw [mT 13 1,mT 14 7,iA 15 3 13 14,fA 16 2 15,l1 17 16,lN 18 17,fA 19 0 3,l1 20 19,mT 21 1,mT 22 7,iA 23 3 21 22,fA 24 0 23,l1 25 24,
 iA 26 4 20 25,lT 27 4 26,cL 28 F.R06_Asks [(.t 27)],bN 29 .geq (.t 18) (.t 28)]
 [(2,15),(4,15),(5,15)])
 (.cond (.t 29)
 (.seq (.ops [mC 6 (.bool false)])
 .ret)
 .skip)))
 (.ops [mT 11 7,bN 12 .add (.t 11) (cI 1),mT 7 12]))))))
 (.seq (.ops [mC 6 (.bool true)])
 .ret))) }
def C.R06_values : LFunc := { np := 4,res := [.tmp 8],keep := false,body :=
 (.seq (.ops [bX 4 4 0,bX 5 5 1,mC 8 (.bool false)])
 (.seq (.seq (.ops [mC 9 (.int .i64 0)])
 (.block 0 (.loop (.seq (.seq (.ops [mT 10 9,mT 11 2,lN 12 11,bN 13 .lss (.t 10) (.t 12),mT 14 13,gM 15 14 true 9,gM 16 14 true 3,gB 17 14 true .leq (.t 15) (.t 16),
 pA 18 14 17])
 (.cond (.t 18)
 .skip
 (.exit 0)))
 (.seq (.block 1 (.seq (.draw [lT 21 4 4,lT 22 5 5,mT 23 2,mT 24 9,iA 25 2 23 24,lT 26 2 25,cL 27 F.R06_value [(.t 21),(.t 22),(.t 26)],nT 28 27]
 [])
 (.cond (.t 28)
 (.seq (.ops [mC 8 (.bool false)])
 .ret)
 .skip)))
 (.ops [mT 19 9,bN 20 .add (.t 19) (cI 1),mT 9 20]))))))
 (.seq (.ops [mT 29 2,lN 30 29,mT 31 3,bN 32 .leq (.t 30) (.t 31),mT 8 32])
 .ret))) }
def C.mean_Turn : LFunc := { np := 3,res := [.cell 6 true 5,.cell 7 true 5,.tmp 8,.tmp 9],keep := false,body :=
 (.seq (.ops [bX 3 4 0,bX 4 5 1,o 6 (.alloc [(.cl []),(.cl []),(.cl []),(.cl []),(.int .i64 0)]),
 o 7 (.alloc [(.int .i64 0),(.int .i64 0),(.int .i64 0),(.int .i64 0),(.int .i64 0)]),mC 8 (.int .i64 0),mC 9 (.int .i64 0)])
 (.seq (.ops [lT 16 4 3,lT 17 5 4,o 18 (.icall (.f F.mean_running) [(.t 16),(.t 17)]),mT 15 18,o 19 (.ext 0 (.t 15)),o 20 (.ext 1 (.t 15)),mT 10 19,mT 11 20])
 (.seq (.seq (.ops [mT 21 11,nT 22 21])
 (.cond (.t 22)
 (.seq (.ops [o 23 (.build [(.cl []),(.cl []),(.cl []),(.cl []),(.int .i64 0)] []),
 o 24 (.build [(.int .i64 0),(.int .i64 0),(.int .i64 0),(.int .i64 0),(.int .i64 0)] []),sT 5 6 23,sT 5 7 24,mC 8 (.int .i64 0),mC 9 (.int .i64 2)])
 .ret)
 .skip))
 (.seq (.ops [mT 26 10,mT 27 2,o 28 (.icall (.f F.mean_runner_turn) [(.t 26),(.t 27)]),mT 25 28,o 29 (.ext 0 (.t 25)),o 30 (.ext 1 (.t 25)),o 31 (.ext 2 (.t 25)),
 o 12 (.alloc [(.int .i64 0),(.int .i64 0),(.int .i64 0),(.int .i64 0),(.int .i64 0)]),sT 5 12 29,mT 13 30,mT 14 31])
 (.seq (.seq (.ops [mT 32 14,bN 33 .neq (.t 32) (cI 0)])
 (.cond (.t 33)
 (.seq (.ops [o 34 (.build [(.cl []),(.cl []),(.cl []),(.cl []),(.int .i64 0)] []),
 o 35 (.build [(.int .i64 0),(.int .i64 0),(.int .i64 0),(.int .i64 0),(.int .i64 0)] []),mT 36 14,sT 5 6 34,sT 5 7 35,mC 8 (.int .i64 0),mT 9 36])
 .ret)
 .skip))
 (.seq (.draw [mT 37 10,cL 38 F.mean_runner_copied [(.t 37)],lT 39 5 12,mT 40 13,sT 5 6 38,sT 5 7 39,mT 8 40,mC 9 (.int .i64 0)]
 [(1,2),(2,4)])
 .ret)))))) }
def C.R02_read : LFunc := { np := 1,res := [.tmp 2,.tmp 3],keep := false,body :=
 (.seq (.ops [mC 2 .nilp,mC 3 (.int .i64 0)])
 (.seq (.ops [mT 7 0,cL 8 F.R02_Tokens [(.t 7)],mT 6 8,o 9 (.ext 0 (.t 6)),o 10 (.ext 1 (.t 6)),mT 4 9,mT 5 10])
 (.seq (.ops [mT 11 4,o 12 (.build [(.cl []),(.int .i64 0),(.bool false)] [(0,1,(.t 11))]),bX 13 3 12,mT 14 5,mT 2 13,mT 3 14])
 .ret))) }
def C.R02_reader_module : LFunc := { np := 1,res := [.cell 2 true 3],keep := false,body :=
 (.seq (.ops [o 2 (.alloc [(.str ⟨#[]⟩),(.cl []),(.cl [])])])
 (.seq (.ops [mT 6 0,o 7 (.icall (.f F.R02_reader_want) [(.t 6),(.c (.str ⟨#[109,111,100,117,108,101]⟩))])])
 (.seq (.ops [mT 8 0,o 9 (.icall (.f F.R02_reader_take) [(.t 8),(cI 1)]),o 10 (.fld false 1 1 (.t 9)),o 11 (.build [(.str ⟨#[]⟩),(.cl []),(.cl [])] [(0,1,(.t 10))]),
 o 3 (.alloc [(.str ⟨#[]⟩),(.cl []),(.cl [])]),sT 3 3 11])
 (.seq (.ops [mT 12 0,o 13 (.icall (.f F.R02_reader_want) [(.t 12),(.c (.str ⟨#[123]⟩))])])
 (.seq (.block 0 (.loop (.seq (.seq (.ops [mT 14 0,o 15 (.icall (.f F.R02_reader_has) [(.t 14),(.c (.str ⟨#[116,121,112,101]⟩))])])
 (.cond (.t 15)
 .skip
 (.exit 0)))
 (.block 1 (.seq (.ops [mT 16 0,o 17 (.icall (.f F.R02_reader_data) [(.t 16)]),o 4 (.alloc [(.str ⟨#[]⟩),(.cl [])]),sT 2 4 17])
 (.ops [fA 18 1 3,l1 19 18,lT 20 2 4,o 21 (.bslice 1 2 [(.str ⟨#[]⟩),(.cl [])] [(0,(.t 20))]),o 22 (.append 2 (.t 19) (.t 21)),fA 23 1 3,sT 1 23 22]))))))
 (.seq (.block 2 (.loop (.seq (.seq (.ops [mT 24 0,o 25 (.icall (.f F.R02_reader_has) [(.t 24),(.c (.str ⟨#[102,117,110]⟩))])])
 (.cond (.t 25)
 .skip
 (.exit 2)))
 (.block 3 (.seq (.ops [mT 26 0,o 27 (.icall (.f F.R02_reader_function) [(.t 26)]),
 o 5 (.alloc ([(.str ⟨#[]⟩),(.str ⟨#[]⟩),(.int .i64 0),(.int .i64 0),(.str ⟨#[]⟩),(.cl []),(.int .i64 0),(.int .i64 0),(.str ⟨#[]⟩),(.cl []),(.int .i64 0),(.int .i64 0),(.str ⟨#[]⟩),(.cl []),(.cl [])])),
 sT 15 5 27])
 (.ops [fA 28 2 3,l1 29 28,lT 30 15 5,
 o 31 (.bslice 1 15 ([(.str ⟨#[]⟩),(.str ⟨#[]⟩),(.int .i64 0),(.int .i64 0),(.str ⟨#[]⟩),(.cl []),(.int .i64 0),(.int .i64 0),(.str ⟨#[]⟩),(.cl []),(.int .i64 0),(.int .i64 0),(.str ⟨#[]⟩),(.cl []),(.cl [])]) [(0,(.t 30))]),
 o 32 (.append 15 (.t 29) (.t 31)),fA 33 2 3,sT 1 33 32]))))))
 (.seq (.ops [mT 34 0,o 35 (.icall (.f F.R02_reader_want) [(.t 34),(.c (.str ⟨#[125]⟩))])])
 (.seq (.ops [lT 36 3 3,sT 3 2 36])
 .ret)))))))) }
def C.R02_reader_whole : LFunc := { np := 1,res := [.tmp 2],keep := false,body :=
 (.seq (.ops [mC 2 (.bool false)])
 (.seq (.draw [mT 3 0,nK 4 3,fA 5 2 4,l1 6 5,nT 7 6,mT 8 7,gM 9 8 true 0,og 10 8 true (.nilck (.t 9)),gF 11 8 true 1 10,g1 12 8 true 11,gM 13 8 true 0,
 og 14 8 true (.nilck (.t 13)),gF 15 8 true 0 14,g1 16 8 true 15,gN 17 8 true 16,gB 18 8 true .eql (.t 12) (.t 17),pA 19 8 18,mT 2 19]
 [])
 .ret)) }
def C.R01_Module : LFunc := { np := 1,res := [.tmp 2],keep := false,body :=
 (.seq (.ops [bX 1 3 0,mC 2 (.bool false)])
 (.seq (.seq (.ops [fA 6 0 1,l1 7 6,cL 8 F.R01_Name [(.t 7)],nT 9 8,mT 10 9,gF 11 10 false 1 1,g1 12 10 false 11,gN 13 10 false 12,gB 14 10 false .gtr (.t 13) (cI 4),
 pO 15 10 14,mT 16 15,gF 17 16 false 2 1,g1 18 16 false 17,gN 19 16 false 18,gL 20 16 false F.R01_in [(.t 19),(cI 1),(cI 5)],og 21 16 false (.un .not (.t 20)),
 pO 22 16 21])
 (.cond (.t 22)
 (.seq (.ops [mC 2 (.bool false)])
 .ret)
 .skip))
 (.seq (.seq (.ops [mC 3 (.int .i64 0)])
 (.block 0 (.loop (.seq (.seq (.ops [mT 23 3,fA 24 1 1,l1 25 24,lN 26 25,bN 27 .lss (.t 23) (.t 26)])
 (.cond (.t 27)
 .skip
 (.exit 0)))
 (.seq (.block 1 (.seq (.ops [fA 30 1 1,l1 31 30,mT 32 3,iA 33 2 31 32,lT 34 2 33,cL 35 F.R01_data [(.t 34)],nT 36 35])
 (.cond (.t 36)
 (.seq (.ops [mC 2 (.bool false)])
 .ret)
 .skip)))
 (.ops [mT 28 3,bN 29 .add (.t 28) (cI 1),mT 3 29]))))))
 (.seq (.seq (.ops [mC 4 (.int .i64 0)])
 (.block 2 (.loop (.seq (.seq (.ops [mT 37 4,fA 38 2 1,l1 39 38,lN 40 39,bN 41 .lss (.t 37) (.t 40)])
 (.cond (.t 41)
 .skip
 (.exit 2)))
 (.seq (.block 3 (.seq (.ops [fA 44 2 1,l1 45 44,mT 46 4,iA 47 15 45 46,lT 48 15 47,
 o 5 (.alloc ([(.str ⟨#[]⟩),(.str ⟨#[]⟩),(.int .i64 0),(.int .i64 0),(.str ⟨#[]⟩),(.cl []),(.int .i64 0),(.int .i64 0),(.str ⟨#[]⟩),(.cl []),(.int .i64 0),(.int .i64 0),(.str ⟨#[]⟩),(.cl []),(.cl [])])),
 sT 15 5 48])
 (.seq (.ops [fA 49 0 5,l1 50 49,cL 51 F.R01_Name [(.t 50)],nT 52 51,mT 53 52,gF 54 53 false 1 5,g1 55 53 false 54,gL 56 53 false F.R01_Name [(.t 55)],
 og 57 53 false (.un .not (.t 56)),pO 58 53 57,mT 59 58,gF 60 59 false 2 5,gT 61 59 false 4 60,gL 62 59 false F.R01_Whole [(.t 61)],og 63 59 false (.un .not (.t 62)),
 pO 64 59 63,mT 65 64,gF 66 65 false 6 5,gT 67 65 false 4 66,gL 68 65 false F.R01_Whole [(.t 67)],og 69 65 false (.un .not (.t 68)),pO 70 65 69,mT 71 70,
 gF 72 71 false 10 5,gT 73 71 false 5 72,gL 74 71 false F.R01_Term [(.t 73)],og 75 71 false (.un .not (.t 74)),pO 76 71 75])
 (.cond (.t 76)
 (.seq (.ops [mC 2 (.bool false)])
 .ret)
 .skip))))
 (.ops [mT 42 4,bN 43 .add (.t 42) (cI 1),mT 4 43]))))))
 (.seq (.ops [mC 2 (.bool true)])
 .ret))))) }
def C.R05_functions : LFunc := { np := 1,res := [.tmp 2],keep := false,body :=
 (.seq (.ops [bX 1 3 0,mC 2 (.cl [])])
 (.seq (.ops [mC 3 (.cl [])])
 (.seq (.seq (.ops [mC 4 (.int .i64 0)])
 (.block 0 (.loop (.seq (.seq (.ops [mT 5 4,fA 6 2 1,l1 7 6,lN 8 7,bN 9 .lss (.t 5) (.t 8)])
 (.cond (.t 9)
 .skip
 (.exit 0)))
 (.seq (.block 1 (.ops [mT 12 3,fA 13 2 1,l1 14 13,mT 15 4,iA 16 15 14 15,fA 17 0 16,l1 18 17,o 19 (.bslice 1 1 [(.str ⟨#[]⟩)] [(0,(.t 18))]),
 o 20 (.append 1 (.t 12) (.t 19)),mT 3 20]))
 (.ops [mT 10 4,bN 11 .add (.t 10) (cI 1),mT 4 11]))))))
 (.seq (.ops [mT 21 3,mT 2 21])
 .ret)))) }
def C.R05_constructors : LFunc := { np := 1,res := [.tmp 2],keep := false,body :=
 (.seq (.ops [bX 1 3 0,mC 2 (.cl [])])
 (.seq (.ops [mC 3 (.cl [])])
 (.seq (.seq (.ops [mC 4 (.int .i64 0)])
 (.block 0 (.loop (.seq (.seq (.ops [mT 7 4,fA 8 1 1,l1 9 8,lN 10 9,bN 11 .lss (.t 7) (.t 10)])
 (.cond (.t 11)
 .skip
 (.exit 0)))
 (.seq (.block 1 (.seq (.ops [mC 5 (.int .i64 0)])
 (.block 2 (.loop (.seq (.seq (.ops [mT 14 5,fA 15 1 1,l1 16 15,mT 17 4,iA 18 2 16 17,fA 19 1 18,l1 20 19,lN 21 20,bN 22 .lss (.t 14) (.t 21)])
 (.cond (.t 22)
 .skip
 (.exit 2)))
 (.seq (.block 3 (.seq (.ops [fA 25 1 1,l1 26 25,mT 27 4,iA 28 2 26 27,fA 29 1 28,l1 30 29,mT 31 5,iA 32 2 30 31,lT 33 2 32,o 6 (.alloc [(.str ⟨#[]⟩),(.cl [])]),
 sT 2 6 33])
 (.ops [mT 34 3,fA 35 0 6,l1 36 35,fA 37 1 6,l1 38 37,lN 39 38,o 40 (.build [(.str ⟨#[]⟩),(.int .i64 0)] [(0,1,(.t 36)),(1,1,(.t 39))]),
 o 41 (.bslice 1 2 [(.str ⟨#[]⟩),(.int .i64 0)] [(0,(.t 40))]),o 42 (.append 2 (.t 34) (.t 41)),mT 3 42])))
 (.ops [mT 23 5,bN 24 .add (.t 23) (cI 1),mT 5 24])))))))
 (.ops [mT 12 4,bN 13 .add (.t 12) (cI 1),mT 4 13]))))))
 (.seq (.ops [mT 43 3,mT 2 43])
 .ret)))) }
def C.R05_names : LFunc := { np := 1,res := [.tmp 2],keep := false,body :=
 (.seq (.ops [mC 2 (.cl [])])
 (.seq (.ops [mC 3 (.cl [])])
 (.seq (.seq (.ops [mC 4 (.int .i64 0)])
 (.block 0 (.loop (.seq (.seq (.ops [mT 5 4,mT 6 0,lN 7 6,bN 8 .lss (.t 5) (.t 7)])
 (.cond (.t 8)
 .skip
 (.exit 0)))
 (.seq (.block 1 (.ops [mT 11 3,mT 12 0,mT 13 4,iA 14 2 12 13,fA 15 0 14,l1 16 15,o 17 (.bslice 1 1 [(.str ⟨#[]⟩)] [(0,(.t 16))]),o 18 (.append 1 (.t 11) (.t 17)),
 mT 3 18]))
 (.ops [mT 9 4,bN 10 .add (.t 9) (cI 1),mT 4 10]))))))
 (.seq (.ops [mT 19 3,mT 2 19])
 .ret)))) }
def C.R01_Has : LFunc := { np := 2,res := [.tmp 4],keep := false,body :=
 (.seq (.ops [mC 4 (.bool false)])
 (.seq (.seq (.ops [mC 5 (.int .i64 0)])
 (.block 0 (.loop (.seq (.seq (.ops [mT 6 5,mT 7 0,lN 8 7,bN 9 .lss (.t 6) (.t 8)])
 (.cond (.t 9)
 .skip
 (.exit 0)))
 (.seq (.block 1 (.seq (.ops [mT 12 0,mT 13 5,iA 14 1 12 13,l1 15 14,mT 16 1,o 17 (.bin .eql .str (.t 15) (.t 16))])
 (.cond (.t 17)
 (.seq (.ops [mC 4 (.bool true)])
 .ret)
 .skip)))
 (.ops [mT 10 5,bN 11 .add (.t 10) (cI 1),mT 5 11]))))))
 (.seq (.ops [mC 4 (.bool false)])
 .ret))) }
def C.R05_binder_known : LFunc := { np := 3,res := [.tmp 6],keep := false,body :=
 (.seq (.ops [bX 4 5 1,mC 6 (.bool false)])
 (.seq (.seq (.ops [fA 10 0 4,l1 11 10,bN 12 .eql (.t 11) (cI 4)])
 (.cond (.t 12)
 (.seq (.draw [mT 13 2,fA 14 2 4,l1 15 14,cL 16 F.R01_Has [(.t 13),(.t 15)],mT 17 16,gM 18 17 false 0,og 19 17 false (.nilck (.t 18)),gF 20 17 false 0 19,
 g1 21 17 false 20,gF 22 17 false 2 4,g1 23 17 false 22,gL 24 17 false F.R01_Has [(.t 21),(.t 23)],pO 25 17 24,mT 6 25]
 [])
 .ret)
 .skip))
 (.seq (.seq (.ops [fA 26 0 4,l1 27 26,bN 28 .eql (.t 27) (cI 14)])
 (.cond (.t 28)
 (.seq (.draw [mT 29 0,nK 30 29,fA 31 1 30,l1 32 31,fA 33 2 4,l1 34 33,cL 35 F.R05_con [(.t 32),(.t 34)],mT 7 35]
 [])
 (.seq (.draw [mT 36 7,bN 37 .lss (.t 36) (cI 0),mT 38 37,gM 39 38 false 0,og 40 38 false (.nilck (.t 39)),gF 41 38 false 1 40,g1 42 38 false 41,gM 43 38 false 7,
 og 44 38 false (.ia 2 (.t 42) (.t 43)),gF 45 38 false 1 44,g1 46 38 false 45,gF 47 38 false 3 4,g1 48 38 false 47,gN 49 38 false 48,
 gB 50 38 false .neq (.t 46) (.t 49),pO 51 38 50]
 [])
 (.cond (.t 51)
 (.seq (.ops [mC 6 (.bool false)])
 .ret)
 .skip)))
 .skip))
 (.seq (.seq (.ops [mC 8 (.int .i64 0)])
 (.block 0 (.loop (.seq (.seq (.ops [mT 52 8,fA 53 4 4,l1 54 53,lN 55 54,bN 56 .lss (.t 52) (.t 55)])
 (.cond (.t 56)
 .skip
 (.exit 0)))
 (.seq (.block 1 (.seq (.ops [mT 59 0,fA 60 4 4,l1 61 60,mT 62 8,iA 63 4 61 62,lT 64 4 63,o 65 (.icall (.f F.R05_binder_knownPat) [(.t 59),(.t 64)]),nT 66 65])
 (.cond (.t 66)
 (.seq (.ops [mC 6 (.bool false)])
 .ret)
 .skip)))
 (.ops [mT 57 8,bN 58 .add (.t 57) (cI 1),mT 8 58]))))))
 (.seq (.seq (.ops [mC 9 (.int .i64 0)])
 (.block 2 (.loop (.seq (.seq (.ops [mT 67 9,fA 68 3 4,l1 69 68,lN 70 69,bN 71 .lss (.t 67) (.t 70)])
 (.cond (.t 71)
 .skip
 (.exit 2)))
 (.seq (.block 3 (.seq (.draw [mT 74 0,fA 75 3 4,l1 76 75,mT 77 9,iA 78 5 76 77,lT 79 5 78,mT 80 2,lT 81 5 4,mT 82 9,cL 83 F.R01_Binds [(.t 81),(.t 82)],
 cL 84 F.R05_within [(.t 80),(.t 83)],o 85 (.icall (.f F.R05_binder_known) [(.t 74),(.t 79),(.t 84)]),nT 86 85]
 [(2,9),(4,9),(5,9),(2,10),(4,10),(5,10)])
 (.cond (.t 86)
 (.seq (.ops [mC 6 (.bool false)])
 .ret)
 .skip)))
 (.ops [mT 72 9,bN 73 .add (.t 72) (cI 1),mT 9 73]))))))
 (.seq (.ops [mC 6 (.bool true)])
 .ret)))))) }
def C.R05_place : LFunc := { np := 2,res := [.tmp 4],keep := false,body :=
 (.seq (.ops [mC 4 (.int .i64 0)])
 (.seq (.seq (.ops [mT 6 0,lN 7 6,bN 8 .sub (.t 7) (cI 1),mT 5 8])
 (.block 0 (.loop (.seq (.seq (.ops [mT 9 5,bN 10 .geq (.t 9) (cI 0)])
 (.cond (.t 10)
 .skip
 (.exit 0)))
 (.seq (.block 1 (.seq (.ops [mT 13 0,mT 14 5,iA 15 1 13 14,l1 16 15,mT 17 1,o 18 (.bin .eql .str (.t 16) (.t 17))])
 (.cond (.t 18)
 (.seq (.ops [mT 19 5,mT 4 19])
 .ret)
 .skip)))
 (.ops [mT 11 5,bN 12 .sub (.t 11) (cI 1),mT 5 12]))))))
 (.seq (.ops [mC 4 (.int .i64 (-1))])
 .ret))) }
def C.R05_binder_put : LFunc := { np := 3,res := [.tmp 6],keep := false,body :=
 (.seq (.ops [bX 4 5 1,mC 6 (.int .i64 0)])
 (.seq (.ops [mT 12 0,nK 13 12,fA 14 2 13,l1 15 14,lN 16 15,mT 7 16])
 (.seq (.ops [fA 17 0 4,l1 18 17,fA 19 1 4,l1 20 19,o 21 (.build [(.int .i64 0),(.int .i64 0),(.cl []),(.cl [])] [(0,1,(.t 18)),(1,1,(.t 20))]),
 o 8 (.alloc [(.int .i64 0),(.int .i64 0),(.cl []),(.cl [])]),sT 4 8 21])
 (.seq (.seq (.ops [fA 22 0 4,l1 23 22,bN 24 .eql (.t 23) (cI 4)])
 (.cond (.t 24)
 (.seq (.ops [mT 25 2,fA 26 2 4,l1 27 26,cL 28 F.R05_place [(.t 25),(.t 27)],fA 29 1 8,sT 1 29 28])
 (.seq (.ops [fA 30 1 8,l1 31 30,bN 32 .lss (.t 31) (cI 0)])
 (.cond (.t 32)
 (.draw [mT 33 0,nK 34 33,fA 35 0 34,l1 36 35,fA 37 2 4,l1 38 37,cL 39 F.R05_place [(.t 36),(.t 38)],bN 40 .sub (cI (-1)) (.t 39),fA 41 1 8,sT 1 41 40]
 [])
 .skip)))
 .skip))
 (.seq (.seq (.ops [fA 42 0 4,l1 43 42,bN 44 .eql (.t 43) (cI 14)])
 (.cond (.t 44)
 (.draw [mT 45 0,nK 46 45,fA 47 1 46,l1 48 47,fA 49 2 4,l1 50 49,cL 51 F.R05_con [(.t 48),(.t 50)],fA 52 1 8,sT 1 52 51]
 [])
 .skip))
 (.seq (.seq (.ops [mC 9 (.int .i64 0)])
 (.block 0 (.loop (.seq (.seq (.ops [mT 53 9,fA 54 4 4,l1 55 54,lN 56 55,bN 57 .lss (.t 53) (.t 56)])
 (.cond (.t 57)
 .skip
 (.exit 0)))
 (.seq (.block 1 (.draw [fA 60 3 8,l1 61 60,mT 62 0,fA 63 4 4,l1 64 63,mT 65 9,iA 66 4 64 65,lT 67 4 66,o 68 (.icall (.f F.R05_binder_pattern) [(.t 62),(.t 67)]),
 o 69 (.bsliceK 1 4 [(.int .i64 0),(.int .i64 0),(.str ⟨#[]⟩),(.cl [])] [(0,(.t 68))]),o 70 (.appendD 4 (.t 61) (.t 69)),fA 71 3 8,sT 1 71 70]
 [(1,8),(1,9)]))
 (.ops [mT 58 9,bN 59 .add (.t 58) (cI 1),mT 9 59]))))))
 (.seq (.draw [mT 72 0,mT 73 0,nK 74 73,fA 75 2 74,l1 76 75,lT 77 4 8,o 78 (.bsliceK 1 4 [(.int .i64 0),(.int .i64 0),(.cl []),(.cl [])] [(0,(.t 77))]),
 o 79 (.appendD 4 (.t 76) (.t 78)),nK 80 72,fA 81 2 80,sT 1 81 79]
 [(4,6)])
 (.seq (.seq (.ops [mC 10 (.int .i64 0)])
 (.block 2 (.loop (.seq (.seq (.ops [mT 82 10,fA 83 3 4,l1 84 83,lN 85 84,bN 86 .lss (.t 82) (.t 85)])
 (.cond (.t 86)
 .skip
 (.exit 2)))
 (.seq (.block 3 (.seq (.draw [mT 89 0,fA 90 3 4,l1 91 90,mT 92 10,iA 93 5 91 92,lT 94 5 93,mT 95 2,lT 96 5 4,mT 97 10,cL 98 F.R01_Binds [(.t 96),(.t 97)],
 cL 99 F.R05_within [(.t 95),(.t 98)],o 100 (.icall (.f F.R05_binder_put) [(.t 89),(.t 94),(.t 99)]),mT 11 100]
 [(2,9),(4,9),(5,9),(2,10),(4,10),(5,10)])
 (.draw [mT 101 0,nK 102 101,fA 103 2 102,l1 104 103,mT 105 7,mT 106 0,nK 107 106,fA 108 2 107,l1 109 108,mT 110 7,iA 111 4 109 110,fA 112 2 111,l1 113 112,mT 114 11,
 o 115 (.bsliceK 1 1 [(.int .i64 0)] [(0,(.t 114))]),o 116 (.appendD 1 (.t 113) (.t 115)),iA 117 4 104 105,fA 118 2 117,sT 1 118 116]
 [(3,14),(8,14),(10,14),(12,14),(3,15)])))
 (.ops [mT 87 10,bN 88 .add (.t 87) (cI 1),mT 10 88]))))))
 (.seq (.ops [mT 119 7,mT 6 119])
 .ret))))))))) }
def C.R06_First : LFunc := { np := 2,res := [.cell 4 true 5],keep := false,body :=
 (.seq (.ops [bX 2 4 0,o 4 (.alloc [(.cl []),(.cl []),(.cl []),(.cl []),(.int .i64 0)])])
 (.seq (.draw [fA 6 1 2,l1 7 6,fA 8 2 2,l1 9 8,iA 10 1 7 9,l1 11 10,cL 12 F.R06_Unit [],o 13 (.bslice 1 2 [(.int .i64 0),(.int .i64 0)] [(0,(.t 12))]),
 o 14 (.build [(.int .i64 0),(.cl []),(.cl [])] [(0,1,(.t 11)),(1,1,(.t 13))]),o 15 (.bslice 1 3 [(.int .i64 0),(.cl []),(.cl [])] [(0,(.t 14))]),
 o 16 (.build [(.int .i64 0),(.int .i64 0),(.cl []),(.cl [])] [(0,1,(cI 6)),(3,1,(.t 15))]),o 5 (.alloc [(.int .i64 0),(.int .i64 0),(.cl []),(.cl [])]),sT 4 5 16]
 [(1,6),(3,6),(4,6),(5,6),(1,7),(3,7),(4,7),(5,7),(1,11),(3,11),(4,11),(5,11),(6,11),(7,11),(9,11)])
 (.seq (.draw [lT 17 4 5,o 18 (.bslice 1 4 [(.int .i64 0),(.int .i64 0),(.cl []),(.cl [])] [(0,(.t 17))]),o 19 (.bslice 1 1 [(.int .i64 0)] [(0,(cI 0))]),mT 20 1,
 o 21 (.append 1 (.c (.cl [])) (.t 20)),o 22 (.build [(.cl []),(.cl []),(.cl []),(.cl []),(.int .i64 0)] [(0,1,(.t 18)),(1,1,(.t 19)),(3,1,(.t 21))]),sT 5 4 22]
 [(0,2),(1,2),(0,4),(1,4),(2,4)])
 .ret))) }
def C.past_same_c1 : LFunc := { np := 2,res := [.tmp 4],keep := false,body :=
 (.seq (.ops [bX 2 3 0,bX 3 3 1,mC 4 (.bool false)])
 (.seq (.ops [fA 5 0 2,l1 6 5,fA 7 0 3,l1 8 7,bN 9 .eql (.t 6) (.t 8),mT 10 9,gF 11 10 true 1 2,g1 12 10 true 11,gF 13 10 true 1 3,g1 14 10 true 13,
 gL 15 10 true F.slices_Equal_s_api_MeanVal_api_MeanVal [(.t 12),(.t 14)],pA 16 10 15,mT 17 16,gF 18 17 true 2 2,g1 19 17 true 18,gF 20 17 true 2 3,g1 21 17 true 20,
 gL 22 17 true F.slices_Equal_s_api_MeanVal_api_MeanVal [(.t 19),(.t 21)],pA 23 17 22,mT 4 23])
 .ret)) }
def C.slices_Equal_s_api_MeanVal_api_MeanVal : LFunc := { np := 2,res := [.tmp 4],keep := false,body :=
 (.seq (.ops [mC 4 (.bool false)])
 (.seq (.seq (.ops [mT 6 0,lN 7 6,mT 8 1,lN 9 8,bN 10 .neq (.t 7) (.t 9)])
 (.cond (.t 10)
 (.seq (.ops [mC 4 (.bool false)])
 .ret)
 .skip))
 (.seq (.seq (.ops [mT 11 0,lN 12 11,mC 13 (.int .i64 0)])
 (.block 0 (.loop (.seq (.ops [bN 14 .lss (.t 13) (.t 12)])
 (.seq (.cond (.t 14)
 .skip
 (.exit 0))
 (.seq (.block 1 (.seq (.ops [mT 15 13,mT 5 15])
 (.seq (.draw [mT 16 0,mT 17 5,iA 18 2 16 17,lT 19 2 18,mT 20 1,mT 21 5,iA 22 2 20 21,lT 23 2 22,o 24 (.bin .neq (.agg [.num,.num]) (.t 19) (.t 23))]
 [])
 (.cond (.t 24)
 (.seq (.ops [mC 4 (.bool false)])
 .ret)
 .skip))))
 (.ops [bN 25 .add (.t 13) (cI 1),mT 13 25])))))))
 (.seq (.ops [mC 4 (.bool true)])
 .ret)))) }
def C.past_same_c2 : LFunc := { np := 3,res := [.tmp 5],keep := false,body :=
 (.seq (.ops [bX 3 4 0,bX 4 4 1,mC 5 (.bool false)])
 (.seq (.ops [fA 6 0 3,l1 7 6,fA 8 0 4,l1 9 8,bN 10 .eql (.t 7) (.t 9),mT 11 10,gF 12 11 true 1 3,g1 13 11 true 12,gF 14 11 true 1 4,g1 15 11 true 14,
 gB 16 11 true .eql (.t 13) (.t 15),pA 17 11 16,mT 18 17,gF 19 18 true 2 3,g1 20 18 true 19,gF 21 18 true 2 4,g1 22 18 true 21,
 gL 23 18 true F.slices_Equal_s_api_MeanVal_api_MeanVal [(.t 20),(.t 22)],pA 24 18 23,mT 25 24,gF 26 25 true 3 3,g1 27 25 true 26,gF 28 25 true 3 4,g1 29 25 true 28,
 g1 30 25 true 2,gL 31 25 true F.slices_EqualFunc_s_api_MeanFrame__api_MeanFrame_api_MeanFrame_api_MeanFrame [(.t 27),(.t 29),(.t 30)],pA 32 25 31,mT 5 32])
 .ret)) }
def C.slices_EqualFunc_s_api_MeanFrame__api_MeanFrame_api_MeanFrame_api_MeanFrame : LFunc := { np := 3,res := [.tmp 6],keep := false,body :=
 (.seq (.ops [mC 6 (.bool false)])
 (.seq (.seq (.ops [mT 10 0,lN 11 10,mT 12 1,lN 13 12,bN 14 .neq (.t 11) (.t 13)])
 (.cond (.t 14)
 (.seq (.ops [mC 6 (.bool false)])
 .ret)
 .skip))
 (.seq (.seq (.ops [mT 15 0,lN 16 15,mC 17 (.int .i64 0)])
 (.block 0 (.loop (.seq (.ops [bN 18 .lss (.t 17) (.t 16)])
 (.seq (.cond (.t 18)
 .skip
 (.exit 0))
 (.seq (.block 1 (.seq (.ops [mT 19 17,iA 20 3 15 17,lT 21 3 20,o 8 (.alloc [(.int .i64 0),(.cl []),(.cl [])]),mT 7 19,sT 3 8 21])
 (.seq (.ops [mT 22 1,mT 23 7,iA 24 3 22 23,lT 25 3 24,o 9 (.alloc [(.int .i64 0),(.cl []),(.cl [])]),sT 3 9 25])
 (.seq (.ops [mT 26 2,lT 27 3 8,lT 28 3 9,o 29 (.call (.t 26) [(.t 27),(.t 28)]),nT 30 29])
 (.cond (.t 30)
 (.seq (.ops [mC 6 (.bool false)])
 .ret)
 .skip)))))
 (.ops [bN 31 .add (.t 17) (cI 1),mT 17 31])))))))
 (.seq (.ops [mC 6 (.bool true)])
 .ret)))) }
def C.slices_EqualFunc_s_api_MeanObj__api_MeanObj_api_MeanObj_api_MeanObj : LFunc := { np := 3,res := [.tmp 6],keep := false,body :=
 (.seq (.ops [mC 6 (.bool false)])
 (.seq (.seq (.ops [mT 10 0,lN 11 10,mT 12 1,lN 13 12,bN 14 .neq (.t 11) (.t 13)])
 (.cond (.t 14)
 (.seq (.ops [mC 6 (.bool false)])
 .ret)
 .skip))
 (.seq (.seq (.ops [mT 15 0,lN 16 15,mC 17 (.int .i64 0)])
 (.block 0 (.loop (.seq (.ops [bN 18 .lss (.t 17) (.t 16)])
 (.seq (.cond (.t 18)
 .skip
 (.exit 0))
 (.seq (.block 1 (.seq (.ops [mT 19 17,iA 20 4 15 17,lT 21 4 20,o 8 (.alloc [(.int .i64 0),(.int .i64 0),(.cl []),(.cl [])]),mT 7 19,sT 4 8 21])
 (.seq (.ops [mT 22 1,mT 23 7,iA 24 4 22 23,lT 25 4 24,o 9 (.alloc [(.int .i64 0),(.int .i64 0),(.cl []),(.cl [])]),sT 4 9 25])
 (.seq (.ops [mT 26 2,lT 27 4 8,lT 28 4 9,o 29 (.call (.t 26) [(.t 27),(.t 28)]),nT 30 29])
 (.cond (.t 30)
 (.seq (.ops [mC 6 (.bool false)])
 .ret)
 .skip)))))
 (.ops [bN 31 .add (.t 17) (cI 1),mT 17 31])))))))
 (.seq (.ops [mC 6 (.bool true)])
 .ret)))) }
def C.slices_Equal_s_int_int : LFunc := { np := 2,res := [.tmp 4],keep := false,body :=
 (.seq (.ops [mC 4 (.bool false)])
 (.seq (.seq (.ops [mT 6 0,lN 7 6,mT 8 1,lN 9 8,bN 10 .neq (.t 7) (.t 9)])
 (.cond (.t 10)
 (.seq (.ops [mC 4 (.bool false)])
 .ret)
 .skip))
 (.seq (.seq (.ops [mT 11 0,lN 12 11,mC 13 (.int .i64 0)])
 (.block 0 (.loop (.seq (.ops [bN 14 .lss (.t 13) (.t 12)])
 (.seq (.cond (.t 14)
 .skip
 (.exit 0))
 (.seq (.block 1 (.seq (.ops [mT 15 13,mT 5 15])
 (.seq (.draw [mT 16 0,mT 17 5,iA 18 1 16 17,l1 19 18,mT 20 1,mT 21 5,iA 22 1 20 21,l1 23 22,bN 24 .neq (.t 19) (.t 23)]
 [])
 (.cond (.t 24)
 (.seq (.ops [mC 4 (.bool false)])
 .ret)
 .skip))))
 (.ops [bN 25 .add (.t 13) (cI 1),mT 13 25])))))))
 (.seq (.ops [mC 4 (.bool true)])
 .ret)))) }
def C.slices_Equal_s_api_MeanOut_api_MeanOut : LFunc := { np := 2,res := [.tmp 4],keep := false,body :=
 (.seq (.ops [mC 4 (.bool false)])
 (.seq (.seq (.ops [mT 6 0,lN 7 6,mT 8 1,lN 9 8,bN 10 .neq (.t 7) (.t 9)])
 (.cond (.t 10)
 (.seq (.ops [mC 4 (.bool false)])
 .ret)
 .skip))
 (.seq (.seq (.ops [mT 11 0,lN 12 11,mC 13 (.int .i64 0)])
 (.block 0 (.loop (.seq (.ops [bN 14 .lss (.t 13) (.t 12)])
 (.seq (.cond (.t 14)
 .skip
 (.exit 0))
 (.seq (.block 1 (.seq (.ops [mT 15 13,mT 5 15])
 (.seq (.draw [mT 16 0,mT 17 5,iA 18 2 16 17,lT 19 2 18,mT 20 1,mT 21 5,iA 22 2 20 21,lT 23 2 22,o 24 (.bin .neq (.agg [.num,.num]) (.t 19) (.t 23))]
 [])
 (.cond (.t 24)
 (.seq (.ops [mC 4 (.bool false)])
 .ret)
 .skip))))
 (.ops [bN 25 .add (.t 13) (cI 1),mT 13 25])))))))
 (.seq (.ops [mC 4 (.bool true)])
 .ret)))) }
def C.bind_Check : LFunc := { np := 1,res := [.tmp 2],keep := false,body :=
 (.seq (.ops [bX 1 4 0,mC 2 (.int .i64 0)])
 (.seq (.seq (.ops [lT 3 4 1,o 4 (.build [(.cl []),(.cl []),(.int .i64 0),(.cl [])] [(0,4,(.t 3))]),cL 5 F.bind_program_formed [(.t 4)],nT 6 5])
 (.cond (.t 6)
 (.seq (.ops [mC 2 (.int .i64 2)])
 .ret)
 .skip))
 (.seq (.ops [mC 2 (.int .i64 0)])
 .ret))) }
def C.mean_runner_world : LFunc := { np := 1,res := [.tmp 2],keep := false,body :=
 (.seq (.ops [mC 2 (.bool false)])
 (.seq (.ops [mT 3 0,nK 4 3,fA 5 4 4,fA 6 0 5,l1 7 6,lN 8 7,bN 9 .leq (.t 8) (cI 120),mT 10 9,gM 11 10 true 0,og 12 10 true (.nilck (.t 11)),gF 13 10 true 4 12,
 gF 14 10 true 0 13,g1 15 10 true 14,gM 16 10 true 0,og 17 10 true (.mkfn F.mean_runner_object [(.t 16)] []),gL 18 10 true F.mean_all_api_MeanObj [(.t 15),(.t 17)],
 pA 19 10 18,mT 20 19,gM 21 20 true 0,gL 22 20 true F.mean_runner_tasks [(.t 21)],pA 23 20 22,mT 24 23,gM 25 24 true 0,og 26 24 true (.nilck (.t 25)),
 gF 27 24 true 4 26,gF 28 24 true 2 27,g1 29 24 true 28,gN 30 24 true 29,gB 31 24 true .leq (.t 30) (cI 100),pA 32 24 31,mT 33 32,gM 34 33 true 0,
 og 35 33 true (.nilck (.t 34)),gF 36 33 true 4 35,gF 37 33 true 2 36,g1 38 33 true 37,gL 39 33 true F.mean_all_api_MeanOut [(.t 38),(.f F.mean_runner_world_c1)],
 pA 40 33 39,mT 41 40,gM 42 41 true 0,og 43 41 true (.nilck (.t 42)),gF 44 41 true 4 43,gF 45 41 true 3 44,g1 46 41 true 45,gL 47 41 true F.mean_inputs [(.t 46)],
 pA 48 41 47,mT 49 48,gM 50 49 true 0,og 51 49 true (.nilck (.t 50)),gF 52 49 true 4 51,gF 53 49 true 4 52,g1 54 49 true 53,
 gL 55 49 true F.mean_within [(.t 54),(cI 0),(cI 1000000000)],pA 56 49 55,mT 2 56])
 .ret)) }
def C.mean_runner_finish : LFunc := { np := 3,res := [],keep := false,nrm := [[]],body :=
 (.seq (.ops [bX 5 4 2])
 (.seq (.ops [mT 6 0,mT 7 0,nK 8 7,fA 9 4 8,fA 10 0 9,l1 11 10,cL 12 F.slices_Clone_s_api_MeanObj_api_MeanObj [(.t 11)],nK 13 6,fA 14 4 13,fA 15 0 14,sT 1 15 12])
 (.draw [mT 16 0,nK 17 16,fA 18 4 17,fA 19 0 18,l1 20 19,mT 21 0,nK 22 21,fA 23 4 22,fA 24 1 23,l1 25 24,mT 26 1,iA 27 1 25 26,l1 28 27,lT 29 4 5,iA 30 4 20 28,
 sT 4 30 29]
 []))) }
def C.mean_masked : LFunc := { np := 1,res := [.cell 2 true 2],keep := false,body :=
 (.seq (.ops [bX 1 2 0,o 2 (.alloc [(.int .i64 0),(.int .i64 0)])])
 (.seq (.seq (.ops [fA 3 0 1,l1 4 3,bN 5 .eql (.t 4) (cI 4),mT 6 5,gF 7 6 false 0 1,g1 8 6 false 7,gB 9 6 false .eql (.t 8) (cI 5),pO 10 6 9])
 (.cond (.t 10)
 (.seq (.ops [o 11 (.build [(.int .i64 0),(.int .i64 0)] [(0,1,(cI 5))]),sT 2 2 11])
 .ret)
 .skip))
 (.seq (.ops [lT 12 2 1,sT 2 2 12])
 .ret))) }
def C.mean_runner_step_c1 : LFunc := { np := 4,res := [],keep := false,body :=
 (.rcv (some 8) [mT 4 8]
 (.seq (.ops [mT 9 4,o 10 (.bin .neq .iface (.t 9) (.c .nili))])
 (.cond (.t 10)
 (.seq (.ops [mT 12 4,o 13 (.assert 249 (.agg [(.int .i64 0)]) true (.t 12)),mT 11 13,o 14 (.ext 0 (.t 11)),o 15 (.ext 1 (.t 11)),o 5 (.alloc [(.int .i64 0)]),
 sT 1 5 14,mT 6 15])
 (.seq (.seq (.ops [mT 16 6,nT 17 16])
 (.cond (.t 17)
 (.opsP [mT 18 4,on (.panic (.t 18))])
 .skip))
 (.seq (.ops [l1 19 1,lT 20 5 0,nK 21 19,fA 22 4 21,sT 5 22 20])
 (.seq (.ops [l1 23 1,l1 24 2,fA 25 0 5,l1 26 25,o 27 (.build [(.int .i64 0),(.int .i64 0),(.cl []),(.cl [])] [(0,1,(cI 6)),(1,1,(.t 26))]),
 o 28 (.icall (.f F.mean_runner_finish) [(.t 23),(.t 24),(.t 27)])])
 (.seq (.ops [lT 29 1 5,cL 30 F.mean_failed_event [(.t 29)],o 7 (.alloc [(.int .i64 0),(.int .i64 0),(.int .i64 0),(.int .i64 0),(.int .i64 0)]),sT 5 7 30])
 (.seq (.ops [l1 31 2,fA 32 0 7,sT 1 32 31])
 (.ops [lT 33 5 7,o 34 (.build [(.int .i64 0),(.int .i64 0),(.int .i64 0),(.int .i64 0),(.int .i64 0)] [(0,5,(.t 33))]),o 35 (.iface 247 (.t 34)),sT 1 3 35])))))))
 .skip))) }
def C.mean_turner_made : LFunc := { np := 2,res := [.tmp 4],keep := false,body :=
 (.seq (.ops [bX 3 4 1,mC 4 .nili])
 (.seq (.ops [fA 9 3 3,l1 10 9,lN 11 10,bN 12 .sub (.t 11) (cI 1),mT 5 12])
 (.seq (.seq (.ops [fA 13 2 3,l1 14 13,lN 15 14,bN 16 .gtr (.t 15) (cI 0)])
 (.cond (.t 16)
 (.seq (.ops [fA 17 3 3,l1 18 17,mT 19 5,iA 20 3 18 19,lT 21 3 20,o 6 (.alloc [(.int .i64 0),(.cl []),(.cl [])]),sT 3 6 21])
 (.seq (.opsP [mT 22 0,fA 23 3 3,l1 24 23,mT 25 5,o 26 (.slice false 3 (.t 24) none (some (.t 25)) none),o 27 (.icall (.f F.mean_turner_push) [(.t 22),(.t 26)])])
 (.seq (.drawP [mT 28 0,fA 29 0 6,l1 30 29,fA 31 1 6,l1 32 31,fA 33 2 6,l1 34 33,cL 35 F.slices_Clip_s_api_MeanVal_api_MeanVal [(.t 34)],fA 36 2 3,l1 37 36,
 o 38 (.ia 2 (.t 37) (cI 0)),lT 39 2 38,o 40 (.bslice 1 2 [(.int .i64 0),(.int .i64 0)] [(0,(.t 39))]),o 41 (.append 2 (.t 35) (.t 40)),
 o 42 (.build [(.int .i64 0),(.cl []),(.cl [])] [(0,1,(.t 30)),(1,1,(.t 32)),(2,1,(.t 41))]),o 43 (.bslice 1 3 [(.int .i64 0),(.cl []),(.cl [])] [(0,(.t 42))]),
 o 44 (.icall (.f F.mean_turner_push) [(.t 28),(.t 43)])]
 [[],[],[1],[],[3],[],[5],[6,5],[],[8],[9,8],[10,9,8],[11,10,9,8],[7,12,6,5,11,10,9,8],[2,4,13,1,3,7,12,6,5,11,10,9,8],[14,2,4,13,1,3,7,12,6,5,11,10,9,8],[0,15,13,14,2,4,1,3,7,12,6,5,11,10,9,8]]
 [(2,7),(4,7),(7,9),(7,10),(7,11),(2,12),(4,12),(6,12),(7,12),(2,13),(4,13)])
 (.seq (.ops [o 45 (.build [] []),o 46 (.iface 255 (.t 45)),mT 4 46])
 .ret))))
 .skip))
 (.seq (.ops [fA 47 3 3,l1 48 47,mT 49 5,iA 50 3 48 49,lT 51 3 50,o 7 (.alloc [(.int .i64 0),(.cl []),(.cl [])]),sT 3 7 51])
 (.seq (.draw [mT 52 0,mT 53 0,nK 54 53,fA 55 0 54,l1 56 55,nK 57 56,fA 58 0 57,fA 59 0 58,l1 60 59,fA 61 0 7,l1 62 61,iA 63 4 60 62,lT 64 4 63,nK 65 52,fA 66 6 65,
 sT 4 66 64]
 [])
 (.seq (.seq (.ops [fA 67 2 7,l1 68 67,lN 69 68,mT 8 69])
 (.seq (.ops [mT 70 8,mT 71 0,nK 72 71,fA 73 6 72,lT 74 4 73,cL 75 F.mean_asks [(.t 74)],bN 76 .lss (.t 70) (.t 75)])
 (.cond (.t 76)
 (.seq (.opsP [mT 77 0,fA 78 3 3,l1 79 78,o 80 (.icall (.f F.mean_turner_push) [(.t 77),(.t 79)])])
 (.seq (.opsP [mT 81 0,mT 82 8,fA 83 1 7,l1 84 83,o 85 (.icall (.f F.mean_turner_goes) [(.t 81),(.t 82),(.t 84)]),mT 4 85])
 .ret))
 .skip)))
 (.seq (.opsP [mT 86 0,fA 87 3 3,l1 88 87,mT 89 5,o 90 (.slice false 3 (.t 88) none (some (.t 89)) none),o 91 (.icall (.f F.mean_turner_push) [(.t 86),(.t 90)])])
 (.seq (.ops [mT 92 0,lT 93 3 7,nK 94 92,fA 95 3 94,sT 3 95 93])
 (.seq (.drawP [cL 96 F.mean_operations [],mT 97 0,nK 98 97,fA 99 6 98,fA 100 0 99,l1 101 100,o 102 (.ixa false 29 1 (.t 96) (.t 101)),mT 103 0,
 o 104 (.icall (.t 102) [(.t 103)]),mT 4 104]
 [[],[],[1],[2,1],[3,2,1],[4,3,2,1],[0,5,4,3,2,1],[],[6,7,0,5,4,3,2,1],[8,0,1,2,3,4,5,6,7]]
 [(0,5)])
 .ret))))))))) }
def C.mean_mapped : LFunc := { np := 2,res := [.cell 4 true 4],keep := false,body :=
 (.seq (.ops [bX 2 4 0,bX 3 1 1,o 4 (.alloc [(.int .i64 0),(.int .i64 0),(.cl []),(.cl [])])])
 (.seq (.ops [o 8 (.mkfn F.mean_mapped_c1 [] [(.t 3)]),mT 5 8])
 (.seq (.draw [mT 9 5,fA 10 2 2,l1 11 10,o 12 (.call (.t 9) [(.t 11)]),fA 13 3 2,l1 14 13,cL 15 F.slices_Clone_s_api_MeanFrame_api_MeanFrame [(.t 14)],fA 16 2 2,
 sT 1 16 12,fA 17 3 2,sT 1 17 15]
 [(3,5)])
 (.seq (.seq (.ops [fA 18 3 2,l1 19 18,lN 20 19,mC 21 (.int .i64 0)])
 (.block 0 (.loop (.seq (.ops [bN 22 .lss (.t 21) (.t 20)])
 (.seq (.cond (.t 22)
 .skip
 (.exit 0))
 (.seq (.block 1 (.seq (.ops [mT 23 21,iA 24 3 19 21,lT 25 3 24,o 7 (.alloc [(.int .i64 0),(.cl []),(.cl [])]),mT 6 23,sT 3 7 25])
 (.draw [fA 26 3 2,l1 27 26,mT 28 6,fA 29 0 7,l1 30 29,mT 31 5,fA 32 1 7,l1 33 32,o 34 (.call (.t 31) [(.t 33)]),mT 35 5,fA 36 2 7,l1 37 36,
 o 38 (.call (.t 35) [(.t 37)]),o 39 (.build [(.int .i64 0),(.cl []),(.cl [])] [(0,1,(.t 30)),(1,1,(.t 34)),(2,1,(.t 38))]),iA 40 3 27 28,sT 3 40 39]
 [(1,8),(4,8),(8,11),(1,12),(4,12)])))
 (.ops [bN 41 .add (.t 21) (cI 1),mT 21 41])))))))
 (.seq (.ops [lT 42 4 2,sT 4 4 42])
 .ret))))) }
def C.mean_runner_copied_c1 : LFunc := { np := 1,res := [.tmp 2],keep := false,body :=
 (.seq (.ops [mC 2 (.int .i64 0)])
 (.seq (.ops [mT 3 0,mT 2 3])
 .ret)) }
def C.R06_Copy : LFunc := { np := 1,res := [.cell 2 true 5],keep := false,body :=
 (.seq (.ops [bX 1 5 0,o 2 (.alloc [(.cl []),(.cl []),(.cl []),(.cl []),(.int .i64 0)])])
 (.seq (.draw [fA 3 0 1,l1 4 3,o 5 (.append 4 (.c (.cl [])) (.t 4)),fA 6 1 1,l1 7 6,o 8 (.append 1 (.c (.cl [])) (.t 7)),fA 9 2 1,l1 10 9,
 o 11 (.append 2 (.c (.cl [])) (.t 10)),fA 12 3 1,l1 13 12,o 14 (.append 1 (.c (.cl [])) (.t 13)),fA 15 4 1,l1 16 15,
 o 17 (.build [(.cl []),(.cl []),(.cl []),(.cl []),(.int .i64 0)] [(0,1,(.t 5)),(1,1,(.t 8)),(2,1,(.t 11)),(3,1,(.t 14)),(4,1,(.t 16))]),sT 5 2 17]
 [(2,4),(2,7),(5,7),(2,10),(5,10),(8,10),(2,13),(5,13),(8,13),(11,13)])
 .ret)) }
def C.R06_Ref : LFunc := { np := 1,res := [.cell 2 true 2],keep := false,body :=
 (.seq (.ops [o 2 (.alloc [(.int .i64 0),(.int .i64 0)])])
 (.seq (.ops [mT 3 0,o 4 (.build [(.int .i64 0),(.int .i64 0)] [(0,1,(cI 5)),(1,1,(.t 3))]),sT 2 2 4])
 .ret)) }
def C.R06_back : LFunc := { np := 4,res := [.cell 8 true 11],keep := false,body :=
 (.seq (.ops [bX 4 5 0,bX 7 2 3,
 o 8 (.alloc ([(.cl []),(.cl []),(.cl []),(.cl []),(.int .i64 0),(.int .i64 0),(.int .i64 0),(.int .i64 0),(.int .i64 0),(.int .i64 0),(.int .i64 0)]))])
 (.seq (.draw [lT 9 5 4,fA 10 1 4,l1 11 10,mT 12 1,iA 13 1 11 12,l1 14 13,mT 15 2,lT 16 2 7,o 17 (.bslice 1 2 [(.int .i64 0),(.int .i64 0)] [(0,(.t 16))]),
 o 18 (.build [(.int .i64 0),(.int .i64 0),(.cl []),(.cl [])] [(0,1,(cI 6)),(3,1,(.t 15)),(2,1,(.t 17))]),o 19 (.icall (.f F.R06_set) [(.t 9),(.t 14),(.t 18)]),
 o 20 (.build ([(.cl []),(.cl []),(.cl []),(.cl []),(.int .i64 0),(.int .i64 0),(.int .i64 0),(.int .i64 0),(.int .i64 0),(.int .i64 0),(.int .i64 0)]) [(0,5,(.t 19))]),
 sT 11 8 20]
 [(0,8),(2,8),(4,8),(5,8)])
 .ret)) }
def C.R06_Unit : LFunc := { np := 0,res := [.cell 0 true 2],keep := false,body :=
 (.seq (.ops [o 0 (.alloc [(.int .i64 0),(.int .i64 0)])])
 (.seq (.ops [o 1 (.build [(.int .i64 0),(.int .i64 0)] [(0,1,(cI 3))]),sT 2 0 1])
 .ret)) }
def C.R06_made : LFunc := { np := 4,res := [.cell 8 true 11],keep := false,body :=
 (.seq (.ops [bX 4 5 0,bX 7 4 3,
 o 8 (.alloc ([(.cl []),(.cl []),(.cl []),(.cl []),(.int .i64 0),(.int .i64 0),(.int .i64 0),(.int .i64 0),(.int .i64 0),(.int .i64 0),(.int .i64 0)]))])
 (.seq (.seq (.ops [fA 9 0 4,l1 10 9,lN 11 10,bN 12 .geq (.t 11) (cI 120)])
 (.cond (.t 12)
 (.seq (.ops [lT 13 5 4,mT 14 1,cL 15 F.R06_fails [(.t 13),(.t 14),(cI 4)],sT 11 8 15])
 .ret)
 .skip))
 (.seq (.ops [lT 16 5 4,o 17 (.icall (.f F.R06_Copy) [(.t 16)]),sT 5 4 17])
 (.seq (.ops [fA 18 0 4,l1 19 18,lT 20 4 7,o 21 (.bslice 1 4 [(.int .i64 0),(.int .i64 0),(.cl []),(.cl [])] [(0,(.t 20))]),o 22 (.append 4 (.t 19) (.t 21)),fA 23 0 4,
 sT 1 23 22])
 (.seq (.draw [lT 24 5 4,mT 25 1,mT 26 2,fA 27 0 4,l1 28 27,lN 29 28,bN 30 .sub (.t 29) (cI 1),cL 31 F.R06_Ref [(.t 30)],
 o 32 (.icall (.f F.R06_back) [(.t 24),(.t 25),(.t 26),(.t 31)]),sT 11 8 32]
 [(0,7)])
 .ret))))) }
def C.R06_celled : LFunc := { np := 5,res := [.cell 10 true 11],keep := false,body :=
 (.seq (.ops [bX 5 5 0,
 o 10 (.alloc ([(.cl []),(.cl []),(.cl []),(.cl []),(.int .i64 0),(.int .i64 0),(.int .i64 0),(.int .i64 0),(.int .i64 0),(.int .i64 0),(.int .i64 0)]))])
 (.seq (.seq (.ops [mT 13 3,bN 14 .eql (.t 13) (cI 16)])
 (.cond (.t 14)
 (.seq (.draw [lT 15 5 5,mT 16 1,mT 17 2,mT 18 4,o 19 (.ia 2 (.t 18) (cI 0)),lT 20 2 19,o 21 (.bslice 1 2 [(.int .i64 0),(.int .i64 0)] [(0,(.t 20))]),
 o 22 (.build [(.int .i64 0),(.int .i64 0),(.cl []),(.cl [])] [(0,1,(cI 3)),(2,1,(.t 21))]),cL 23 F.R06_made [(.t 15),(.t 16),(.t 17),(.t 22)],mT 24 1,mT 25 3,mT 26 4,
 o 27 (.ia 2 (.t 26) (cI 0)),lT 28 2 27,cL 29 F.R06_event [(.t 23),(.t 24),(.t 25),(cI 0),(.t 28)],sT 11 10 29]
 [(0,6),(6,12),(8,12),(6,13),(8,13)])
 .ret)
 .skip))
 (.seq (.draw [lT 31 5 5,mT 32 4,o 33 (.ia 2 (.t 32) (cI 0)),lT 34 2 33,cL 35 F.R06_object1 [(.t 31),(.t 34),(cI 3)],mT 30 35,o 36 (.ext 0 (.t 30)),
 o 37 (.ext 1 (.t 30)),o 11 (.alloc [(.int .i64 0),(.int .i64 0),(.cl []),(.cl [])]),sT 4 11 36,mT 12 37]
 [(0,8),(2,8),(3,8),(4,8)])
 (.seq (.seq (.ops [mT 38 12,nT 39 38])
 (.cond (.t 39)
 (.seq (.ops [lT 40 5 5,mT 41 1,cL 42 F.R06_fails [(.t 40),(.t 41),(cI 2)],sT 11 10 42])
 .ret)
 .skip))
 (.seq (.seq (.ops [mT 43 3,bN 44 .eql (.t 43) (cI 17)])
 (.cond (.t 44)
 (.seq (.draw [lT 45 5 5,mT 46 1,mT 47 2,fA 48 2 11,l1 49 48,o 50 (.ia 2 (.t 49) (cI 0)),lT 51 2 50,cL 52 F.R06_back [(.t 45),(.t 46),(.t 47),(.t 51)],mT 53 1,mT 54 3,
 fA 55 2 11,l1 56 55,o 57 (.ia 2 (.t 56) (cI 0)),lT 58 2 57,cL 59 F.R06_event [(.t 52),(.t 53),(.t 54),(cI 0),(.t 58)],sT 11 10 59]
 [(7,11),(7,12),(7,13)])
 .ret)
 .skip))
 (.seq (.draw [lT 60 5 5,mT 61 4,o 62 (.ia 2 (.t 61) (cI 0)),fA 63 1 62,l1 64 63,mT 65 4,o 66 (.ia 2 (.t 65) (cI 1)),lT 67 2 66,
 o 68 (.bslice 1 2 [(.int .i64 0),(.int .i64 0)] [(0,(.t 67))]),o 69 (.build [(.int .i64 0),(.int .i64 0),(.cl []),(.cl [])] [(0,1,(cI 3)),(2,1,(.t 68))]),
 cL 70 F.R06_set [(.t 60),(.t 64),(.t 69)],sT 5 5 70]
 [(0,8),(2,8),(4,8)])
 (.seq (.draw [lT 71 5 5,mT 72 1,mT 73 2,cL 74 F.R06_Unit [],cL 75 F.R06_back [(.t 71),(.t 72),(.t 73),(.t 74)],mT 76 1,mT 77 3,mT 78 4,o 79 (.ia 2 (.t 78) (cI 1)),
 lT 80 2 79,cL 81 F.R06_event [(.t 75),(.t 76),(.t 77),(cI 0),(.t 80)],sT 11 10 81]
 [(0,3),(3,8),(4,8),(3,9),(4,9)])
 .ret))))))) }
def C.R06_event : LFunc := { np := 5,res := [.cell 10 true 11],keep := false,body :=
 (.seq (.ops [bX 5 11 0,bX 9 2 4,
 o 10 (.alloc ([(.cl []),(.cl []),(.cl []),(.cl []),(.int .i64 0),(.int .i64 0),(.int .i64 0),(.int .i64 0),(.int .i64 0),(.int .i64 0),(.int .i64 0)]))])
 (.seq (.seq (.ops [fA 11 5 5,l1 12 11,bN 13 .eql (.t 12) (cI 1)])
 (.cond (.t 13)
 (.seq (.ops [lT 14 11 5,sT 11 10 14])
 .ret)
 .skip))
 (.seq (.draw [fA 15 0 5,lT 16 5 15,mT 17 1,mT 18 2,mT 19 3,lT 20 2 9,cL 21 F.R06_Masked [(.t 20)],
 o 22 (.build [(.int .i64 0),(.int .i64 0),(.int .i64 0),(.int .i64 0),(.int .i64 0)] [(0,1,(.t 17)),(1,1,(.t 18)),(2,1,(.t 19)),(3,2,(.t 21))]),
 o 23 (.build ([(.cl []),(.cl []),(.cl []),(.cl []),(.int .i64 0),(.int .i64 0),(.int .i64 0),(.int .i64 0),(.int .i64 0),(.int .i64 0),(.int .i64 0)]) [(0,5,(.t 16)),(5,1,(cI 1)),(6,5,(.t 22))]),
 sT 11 10 23]
 [(1,6)])
 .ret))) }
def C.R01_small : LFunc := { np := 1,res := [.tmp 2],keep := false,body :=
 (.seq (.ops [mC 2 (.bool false)])
 (.seq (.seq (.ops [mC 3 (.int .i64 0)])
 (.block 0 (.loop (.seq (.seq (.ops [mT 4 3,mT 5 0,o 6 (.len .str (.t 5)),bN 7 .lss (.t 4) (.t 6)])
 (.cond (.t 7)
 .skip
 (.exit 0)))
 (.seq (.block 1 (.seq (.ops [mT 10 0,mT 11 3,o 12 (.ixs (.t 10) (.t 11)),bN 13 .lss (.t 12) (.c (.int .u8 97)),mT 14 13,gM 15 14 false 0,gM 16 14 false 3,
 og 17 14 false (.ixs (.t 15) (.t 16)),gB 18 14 false .gtr (.t 17) (.c (.int .u8 122)),pO 19 14 18])
 (.cond (.t 19)
 (.seq (.ops [mC 2 (.bool false)])
 .ret)
 .skip)))
 (.ops [mT 8 3,bN 9 .add (.t 8) (cI 1),mT 3 9]))))))
 (.seq (.ops [mC 2 (.bool true)])
 .ret))) }
def C.R06_value : LFunc := { np := 3,res := [.tmp 6],keep := false,body :=
 (.seq (.ops [bX 3 4 0,bX 4 5 1,bX 5 2 2,mC 6 (.bool false)])
 (.seq (.seq (.ops [fA 7 0 5,l1 8 7])
 (.block 0 (.seq (.ops [bN 10 .eql (.t 8) (cI 1),mT 9 10])
 (.cond (.t 9)
 (.seq (.ops [fA 11 1 5,l1 12 11,cL 13 F.R06_in [(.t 12),(cI (-1000000000)),(cI 1000000000)],mT 6 13])
 .ret)
 (.seq (.ops [bN 15 .eql (.t 8) (cI 2),mT 14 15])
 (.cond (.t 14)
 (.seq (.ops [fA 16 1 5,l1 17 16,cL 18 F.R06_in [(.t 17),(cI 0),(cI 1)],mT 6 18])
 .ret)
 (.seq (.ops [bN 20 .eql (.t 8) (cI 3),mT 19 20])
 (.cond (.t 19)
 (.seq (.ops [fA 21 1 5,l1 22 21,bN 23 .eql (.t 22) (cI 0),mT 6 23])
 .ret)
 (.seq (.ops [bN 25 .eql (.t 8) (cI 4),mT 24 25])
 (.cond (.t 24)
 (.seq (.ops [fA 26 1 5,l1 27 26,fA 28 1 3,l1 29 28,lN 30 29,bN 31 .sub (.t 30) (cI 1),cL 32 F.R06_in [(.t 27),(cI 0),(.t 31)],mT 6 32])
 .ret)
 (.seq (.ops [bN 34 .eql (.t 8) (cI 5),mT 33 34])
 (.cond (.t 33)
 (.seq (.ops [fA 35 1 5,l1 36 35,fA 37 0 4,l1 38 37,lN 39 38,bN 40 .sub (.t 39) (cI 1),cL 41 F.R06_in [(.t 36),(cI 0),(.t 40)],mT 6 41])
 .ret)
 .skip))))))))))))
 (.seq (.ops [mC 6 (.bool false)])
 .ret))) }
def C.mean_runner_turn : LFunc := { np := 2,res := [.cell 4 true 5,.tmp 5,.tmp 6],keep := false,body :=
 (.seq (.ops [o 4 (.alloc [(.int .i64 0),(.int .i64 0),(.int .i64 0),(.int .i64 0),(.int .i64 0)]),mC 5 (.int .i64 0),mC 6 (.int .i64 0)])
 (.seq (.ops [mT 13 0,o 14 (.icall (.f F.mean_runner_settle) [(.t 13),(cI 0)]),mT 12 14,o 15 (.ext 0 (.t 12)),o 16 (.ext 1 (.t 12)),mT 7 15,mT 8 16])
 (.seq (.seq (.ops [mT 17 8,nT 18 17])
 (.cond (.t 18)
 (.seq (.ops [o 19 (.build [(.int .i64 0),(.int .i64 0),(.int .i64 0),(.int .i64 0),(.int .i64 0)] []),sT 5 4 19,mC 5 (.int .i64 0),mC 6 (.int .i64 8)])
 .ret)
 .skip))
 (.seq (.ops [mT 20 0,cL 21 F.mean_runner_ready [(.t 20)],mT 9 21])
 (.seq (.seq (.ops [mT 22 9,lN 23 22,bN 24 .eql (.t 23) (cI 0)])
 (.cond (.t 24)
 (.seq (.ops [o 25 (.build [(.int .i64 0),(.int .i64 0),(.int .i64 0),(.int .i64 0),(.int .i64 0)] []),sT 5 4 25,mC 5 (.int .i64 0),mC 6 (.int .i64 5)])
 .ret)
 .skip))
 (.seq (.ops [mT 26 1,mT 27 9,lN 28 27,bN 29 .rem (.t 26) (.t 28),mT 10 29])
 (.seq (.seq (.ops [mT 30 10,bN 31 .lss (.t 30) (cI 0)])
 (.cond (.t 31)
 (.ops [mT 32 10,mT 33 9,lN 34 33,bN 35 .add (.t 32) (.t 34),mT 10 35])
 .skip))
 (.seq (.ops [mT 36 0,mT 37 9,mT 38 10,iA 39 1 37 38,l1 40 39,o 41 (.icall (.f F.mean_runner_step) [(.t 36),(.t 40)]),mT 11 41])
 (.seq (.ops [mT 43 0,mT 44 7,bN 45 .add (.t 44) (cI 1),o 46 (.icall (.f F.mean_runner_settle) [(.t 43),(.t 45)]),mT 42 46,o 47 (.ext 0 (.t 42)),o 48 (.ext 1 (.t 42)),
 mT 7 47,mT 8 48])
 (.seq (.seq (.ops [mT 49 8,nT 50 49,mT 51 50,gM 52 51 false 7,gB 53 51 false .gtr (.t 52) (cI 5000),pO 54 51 53])
 (.cond (.t 54)
 (.seq (.ops [o 55 (.build [(.int .i64 0),(.int .i64 0),(.int .i64 0),(.int .i64 0),(.int .i64 0)] []),sT 5 4 55,mC 5 (.int .i64 0),mC 6 (.int .i64 8)])
 .ret)
 .skip))
 (.seq (.ops [mT 56 11,o 57 (.call (.m [(244,F.mean_waits_event),(247,F.mean_does_event),(249,F.mean_failed_event),(255,F.mean_plain_event)] 56) []),mT 58 7,sT 5 4 57,
 mT 5 58,mC 6 (.int .i64 0)])
 .ret))))))))))) }
def C.R02_Tokens : LFunc := { np := 1,res := [.tmp 2,.tmp 3],keep := false,body :=
 (.seq (.ops [mC 2 (.cl []),mC 3 (.int .i64 0)])
 (.seq (.seq (.ops [mT 6 0,o 7 (.len .str (.t 6)),bN 8 .gtr (.t 7) (cI 8000)])
 (.cond (.t 8)
 (.seq (.ops [mC 2 (.cl []),mC 3 (.int .i64 3)])
 .ret)
 .skip))
 (.seq (.ops [mT 10 0,cL 11 F.R02_List [(.t 10)],mT 9 11,o 12 (.ext 0 (.t 9)),o 13 (.ext 1 (.t 9)),mT 4 12,mT 5 13])
 (.seq (.seq (.ops [mT 14 5,mT 15 0,o 16 (.len .str (.t 15)),bN 17 .lss (.t 14) (.t 16)])
 (.cond (.t 17)
 (.seq (.ops [mC 2 (.cl []),mC 3 (.int .i64 4)])
 .ret)
 .skip))
 (.seq (.ops [mT 18 4,mT 2 18,mC 3 (.int .i64 0)])
 .ret))))) }
def C.R02_reader_want : LFunc := { np := 2,res := [],keep := false,body :=
 (.seq (.ops [mT 4 0,mT 5 1,o 6 (.icall (.f F.R02_reader_has) [(.t 4),(.t 5)]),nT 7 6])
 (.cond (.t 7)
 (.ops [mT 8 0,nK 9 8,fA 10 2 9,on (.store 1 (.t 10) (cB true))])
 .skip)) }
def C.R02_reader_take : LFunc := { np := 2,res := [.cell 4 true 4],keep := false,body :=
 (.seq (.ops [o 4 (.alloc [(.int .i64 0),(.str ⟨#[]⟩),(.int .i64 0),(.int .i64 0)])])
 (.seq (.seq (.ops [mT 6 0,mT 7 1,o 8 (.icall (.f F.R02_reader_is) [(.t 6),(.t 7)]),nT 9 8])
 (.cond (.t 9)
 (.seq (.ops [mT 10 0,nK 11 10,fA 12 2 11,on (.store 1 (.t 12) (cB true))])
 (.seq (.ops [o 13 (.build [(.int .i64 0),(.str ⟨#[]⟩),(.int .i64 0),(.int .i64 0)] []),sT 4 4 13])
 .ret))
 .skip))
 (.seq (.draw [mT 14 0,nK 15 14,fA 16 0 15,l1 17 16,mT 18 0,nK 19 18,fA 20 1 19,l1 21 20,iA 22 4 17 21,lT 23 4 22,
 o 5 (.alloc [(.int .i64 0),(.str ⟨#[]⟩),(.int .i64 0),(.int .i64 0)]),sT 4 5 23]
 [(3,10),(7,10),(8,10),(9,10)])
 (.seq (.ops [mT 24 0,nK 25 24,fA 26 1 25,l1 27 26,bN 28 .add (.t 27) (cI 1),nK 29 24,fA 30 1 29,sT 1 30 28])
 (.seq (.ops [lT 31 4 5,sT 4 4 31])
 .ret))))) }
def C.R02_reader_has : LFunc := { np := 2,res := [.tmp 4],keep := false,body :=
 (.seq (.ops [mC 4 (.bool false)])
 (.seq (.ops [mT 6 0,mT 7 1,o 8 (.icall (.f F.R02_reader_sees) [(.t 6),(.t 7)]),mT 5 8])
 (.seq (.seq (.ops [mT 9 5])
 (.cond (.t 9)
 (.ops [mT 10 0,nK 11 10,fA 12 1 11,l1 13 12,bN 14 .add (.t 13) (cI 1),nK 15 10,fA 16 1 15,sT 1 16 14])
 .skip))
 (.seq (.ops [mT 17 5,mT 4 17])
 .ret)))) }
def C.R02_reader_function : LFunc := { np := 1,res := [.cell 2 true 15],keep := false,body :=
 (.seq (.ops [o 2 (.alloc ([(.str ⟨#[]⟩),(.str ⟨#[]⟩),(.int .i64 0),(.int .i64 0),(.str ⟨#[]⟩),(.cl []),(.int .i64 0),(.int .i64 0),(.str ⟨#[]⟩),(.cl []),(.int .i64 0),(.int .i64 0),(.str ⟨#[]⟩),(.cl []),(.cl [])]))])
 (.seq (.ops [mT 4 0,o 5 (.icall (.f F.R02_reader_take) [(.t 4),(cI 1)]),o 6 (.fld false 1 1 (.t 5)),
 o 7 (.build ([(.str ⟨#[]⟩),(.str ⟨#[]⟩),(.int .i64 0),(.int .i64 0),(.str ⟨#[]⟩),(.cl []),(.int .i64 0),(.int .i64 0),(.str ⟨#[]⟩),(.cl []),(.int .i64 0),(.int .i64 0),(.str ⟨#[]⟩),(.cl []),(.cl [])]) [(0,1,(.t 6))]),
 o 3 (.alloc ([(.str ⟨#[]⟩),(.str ⟨#[]⟩),(.int .i64 0),(.int .i64 0),(.str ⟨#[]⟩),(.cl []),(.int .i64 0),(.int .i64 0),(.str ⟨#[]⟩),(.cl []),(.int .i64 0),(.int .i64 0),(.str ⟨#[]⟩),(.cl []),(.cl [])])),
 sT 15 3 7])
 (.seq (.ops [mT 8 0,o 9 (.icall (.f F.R02_reader_want) [(.t 8),(.c (.str ⟨#[40]⟩))])])
 (.seq (.ops [mT 10 0,o 11 (.icall (.f F.R02_reader_take) [(.t 10),(cI 1)]),o 12 (.fld false 1 1 (.t 11)),fA 13 1 3,sT 1 13 12])
 (.seq (.ops [mT 14 0,o 15 (.icall (.f F.R02_reader_want) [(.t 14),(.c (.str ⟨#[58]⟩))])])
 (.seq (.ops [mT 16 0,o 17 (.icall (.f F.R02_reader_kind) [(.t 16)]),fA 18 2 3,sT 4 18 17])
 (.seq (.ops [mT 19 0,o 20 (.icall (.f F.R02_reader_want) [(.t 19),(.c (.str ⟨#[41]⟩))])])
 (.seq (.ops [mT 21 0,o 22 (.icall (.f F.R02_reader_want) [(.t 21),(.c (.str ⟨#[58]⟩))])])
 (.seq (.ops [mT 23 0,o 24 (.icall (.f F.R02_reader_kind) [(.t 23)]),fA 25 6 3,sT 4 25 24])
 (.seq (.ops [mT 26 0,o 27 (.icall (.f F.R02_reader_want) [(.t 26),(.c (.str ⟨#[61]⟩))])])
 (.seq (.ops [mT 28 0,o 29 (.icall (.f F.R02_reader_term) [(.t 28)]),fA 30 10 3,sT 5 30 29])
 (.seq (.ops [mT 31 0,o 32 (.icall (.f F.R02_reader_want) [(.t 31),(.c (.str ⟨#[59]⟩))])])
 (.seq (.ops [lT 33 15 3,sT 15 2 33])
 .ret))))))))))))) }
def C.R01_Name : LFunc := { np := 1,res := [.tmp 2],keep := false,body :=
 (.seq (.ops [mC 2 (.bool false)])
 (.seq (.ops [mT 3 0,o 4 (.len .str (.t 3)),bN 5 .geq (.t 4) (cI 1),mT 6 5,gM 7 6 true 0,og 8 6 true (.len .str (.t 7)),gB 9 6 true .leq (.t 8) (cI 8),pA 10 6 9,
 mT 11 10,gM 12 11 true 0,gL 13 11 true F.R01_small [(.t 12)],pA 14 11 13,mT 15 14,gM 16 15 true 0,gL 17 15 true F.R01_Key [(.t 16)],og 18 15 true (.un .not (.t 17)),
 pA 19 15 18,mT 2 19])
 .ret)) }
def C.R01_in : LFunc := { np := 3,res := [.tmp 6],keep := false,body :=
 (.seq (.ops [mC 6 (.bool false)])
 (.seq (.ops [mT 7 0,mT 8 1,bN 9 .geq (.t 7) (.t 8),mT 10 9,gM 11 10 true 0,gM 12 10 true 2,gB 13 10 true .leq (.t 11) (.t 12),pA 14 10 13,mT 6 14])
 .ret)) }
def C.R01_Whole : LFunc := { np := 1,res := [.tmp 2],keep := false,body :=
 (.seq (.ops [bX 1 4 0,mC 2 (.bool false)])
 (.seq (.ops [lT 3 4 1,cL 4 F.R01_WeighType [(.t 3),(cI 12)],bN 5 .geq (.t 4) (cI 0),mT 6 5,gT 7 6 true 4 1,gL 8 6 true F.R01_sorts [(.t 7),(cB false)],pA 9 6 8,
 mT 2 9])
 .ret)) }
def C.R01_Term : LFunc := { np := 1,res := [.tmp 2],keep := false,body :=
 (.seq (.ops [bX 1 5 0,mC 2 (.bool false)])
 (.seq (.ops [lT 3 5 1,cL 4 F.R01_Weigh [(.t 3),(cI 60),(cI 14)],bN 5 .geq (.t 4) (cI 0),mT 6 5,gT 7 6 true 5 1,gL 8 6 true F.R01_nodes [(.t 7)],pA 9 6 8,mT 2 9])
 .ret)) }
def C.R05_within : LFunc := { np := 2,res := [.tmp 4],keep := false,body :=
 (.seq (.ops [mC 4 (.cl [])])
 (.seq (.ops [mT 5 0,o 6 (.append 1 (.c (.cl [])) (.t 5)),mT 7 1,o 8 (.append 1 (.t 6) (.t 7)),mT 4 8])
 .ret)) }
def C.R01_Binds : LFunc := { np := 2,res := [.tmp 4],keep := false,body :=
 (.seq (.ops [bX 2 5 0,mC 4 (.cl [])])
 (.seq (.seq (.ops [fA 5 0 2,l1 6 5])
 (.block 0 (.seq (.seq (.ops [bN 8 .eql (.t 6) (cI 5),mT 7 8])
 (.cond (.t 7)
 .skip
 (.ops [bN 9 .eql (.t 6) (cI 27),mT 7 9])))
 (.cond (.t 7)
 (.seq (.ops [fA 10 2 2,l1 11 10,o 12 (.bslice 1 1 [(.str ⟨#[]⟩)] [(0,(.t 11))]),mT 4 12])
 .ret)
 (.seq (.ops [bN 14 .eql (.t 6) (cI 7),mT 13 14])
 (.cond (.t 13)
 (.seq (.ops [mT 15 1,bN 16 .eql (.t 15) (cI 1)])
 (.cond (.t 16)
 (.seq (.ops [fA 17 2 2,l1 18 17,o 19 (.bslice 1 1 [(.str ⟨#[]⟩)] [(0,(.t 18))]),mT 4 19])
 .ret)
 .skip))
 (.seq (.ops [bN 21 .eql (.t 6) (cI 15),mT 20 21])
 (.cond (.t 20)
 (.seq (.ops [mT 22 1,bN 23 .gtr (.t 22) (cI 0)])
 (.cond (.t 23)
 (.seq (.ops [fA 24 4 2,l1 25 24,mT 26 1,bN 27 .sub (.t 26) (cI 1),iA 28 4 25 27,lT 29 4 28,cL 30 F.R01_PatNames [(.t 29)],mT 4 30])
 .ret)
 .skip))
 .skip))))))))
 (.seq (.ops [mC 4 (.cl [])])
 .ret))) }
def C.bind_program_formed : LFunc := { np := 1,res := [.tmp 2],keep := false,body :=
 (.seq (.ops [bX 1 4 0,mC 2 (.bool false)])
 (.seq (.ops [fA 11 0 1,fA 12 0 11,l1 13 12,lN 14 13,mT 3 14])
 (.seq (.seq (.ops [mT 15 3,bN 16 .gtr (.t 15) (cI 300),mT 17 16,gF 18 17 false 0 1,gF 19 17 false 1 18,g1 20 17 false 19,gN 21 17 false 20,
 gB 22 17 false .lss (.t 21) (cI 1),pO 23 17 22,mT 24 23,gF 25 24 false 0 1,gF 26 24 false 1 25,g1 27 24 false 26,gN 28 24 false 27,gM 29 24 false 3,
 gB 30 24 false .gtr (.t 28) (.t 29),pO 31 24 30,mT 32 31,gF 33 32 false 0 1,gF 34 32 false 3 33,g1 35 32 false 34,gN 36 32 false 35,
 gB 37 32 false .gtr (.t 36) (cI 20),pO 38 32 37,mT 39 38,gF 40 39 false 0 1,gF 41 39 false 2 40,g1 42 39 false 41,gF 43 39 false 0 1,gF 44 39 false 1 43,
 g1 45 39 false 44,gN 46 39 false 45,gB 47 39 false .sub (.t 46) (cI 1),gL 48 39 false F.bind_in [(.t 42),(cI 0),(.t 47)],og 49 39 false (.un .not (.t 48)),
 pO 50 39 49])
 (.cond (.t 50)
 (.seq (.ops [mC 2 (.bool false)])
 .ret)
 .skip))
 (.seq (.seq (.ops [fA 51 0 1,fA 52 3 51,l1 53 52,cL 54 F.bind_every_api_BindCon [(.t 53),(.f F.bind_con)],nT 55 54,mT 56 55,gF 57 56 false 0 1,gF 58 56 false 3 57,
 g1 59 56 false 58,gL 60 56 false F.bind_mapped_api_BindCon_string [(.t 59),(.f F.bind_program_formed_c1)],gL 61 56 false F.bind_differ [(.t 60)],
 og 62 56 false (.un .not (.t 61)),pO 63 56 62,mT 64 63,gF 65 64 false 0 1,gF 66 64 false 0 65,g1 67 64 false 66,gT 68 64 false 4 1,
 og 69 64 false (.mkfn F.bind_program_node [(.t 68)] []),gL 70 64 false F.bind_every_api_BindNode [(.t 67),(.t 69)],og 71 64 false (.un .not (.t 70)),pO 72 64 71])
 (.cond (.t 72)
 (.seq (.ops [mC 2 (.bool false)])
 .ret)
 .skip))
 (.seq (.ops [mT 73 3,o 74 (.mklen 1 [(.int .i64 0)] (.t 73) (.t 73)),mT 4 74])
 (.seq (.seq (.ops [fA 75 0 1,fA 76 1 75,l1 77 76,lN 78 77,mC 79 (.int .i64 0)])
 (.block 0 (.loop (.seq (.ops [bN 80 .lss (.t 79) (.t 78)])
 (.seq (.cond (.t 80)
 .skip
 (.exit 0))
 (.seq (.block 1 (.seq (.ops [iA 81 1 77 79,l1 82 81,mT 6 82])
 (.seq (.seq (.ops [mT 83 6,mT 84 3,bN 85 .sub (.t 84) (cI 1),cL 86 F.bind_in [(.t 83),(cI 0),(.t 85)],nT 87 86])
 (.cond (.t 87)
 (.seq (.ops [mC 2 (.bool false)])
 .ret)
 .skip))
 (.ops [mT 88 4,mT 89 6,iA 90 1 88 89,l1 91 90,bN 92 .add (.t 91) (cI 1),iA 93 1 88 89,sT 1 93 92]))))
 (.ops [bN 94 .add (.t 79) (cI 1),mT 79 94])))))))
 (.seq (.seq (.ops [fA 95 0 1,fA 96 0 95,l1 97 96,lN 98 97,mC 99 (.int .i64 0)])
 (.block 2 (.loop (.seq (.ops [bN 100 .lss (.t 99) (.t 98)])
 (.seq (.cond (.t 100)
 .skip
 (.exit 2))
 (.seq (.block 3 (.seq (.ops [mT 101 99,iA 102 4 97 99,lT 103 4 102,o 8 (.alloc [(.int .i64 0),(.int .i64 0),(.cl []),(.cl [])]),mT 7 101,sT 4 8 103])
 (.seq (.ops [fA 104 2 8,l1 105 104,lN 106 105,mC 107 (.int .i64 0)])
 (.block 4 (.loop (.seq (.ops [bN 108 .lss (.t 107) (.t 106)])
 (.seq (.cond (.t 108)
 .skip
 (.exit 4))
 (.seq (.block 5 (.seq (.ops [iA 109 1 105 107,l1 110 109,mT 10 110])
 (.seq (.seq (.ops [mT 111 10,mT 112 7,bN 113 .add (.t 112) (cI 1),mT 114 3,bN 115 .sub (.t 114) (cI 1),cL 116 F.bind_in [(.t 111),(.t 113),(.t 115)],nT 117 116])
 (.cond (.t 117)
 (.seq (.ops [mC 2 (.bool false)])
 .ret)
 .skip))
 (.ops [mT 118 4,mT 119 10,iA 120 1 118 119,l1 121 120,bN 122 .add (.t 121) (cI 1),iA 123 1 118 119,sT 1 123 122]))))
 (.ops [bN 124 .add (.t 107) (cI 1),mT 107 124])))))))))
 (.ops [bN 125 .add (.t 99) (cI 1),mT 99 125])))))))
 (.seq (.ops [mT 126 4,cL 127 F.bind_every_int [(.t 126),(.f F.bind_program_formed_c2)],mT 2 127])
 .ret)))))))) }
def C.mean_all_api_MeanObj : LFunc := { np := 2,res := [.tmp 4],keep := false,body :=
 (.seq (.ops [bX 3 1 1,mC 4 (.bool false)])
 (.seq (.ops [mT 5 0,o 6 (.mkfn F.mean_all_api_MeanObj_c1 [] [(.t 3)]),cL 7 F.slices_ContainsFunc_s_api_MeanObj_api_MeanObj [(.t 5),(.t 6)],nT 8 7,mT 4 8])
 .ret)) }
def C.mean_runner_object : LFunc := { np := 2,res := [.tmp 4],keep := false,body :=
 (.seq (.ops [bX 3 4 1,mC 4 (.bool false)])
 (.seq (.seq (.ops [fA 6 2 3,l1 7 6,mT 8 0,o 9 (.mkfn F.mean_runner_value [(.t 8)] []),cL 10 F.mean_all_api_MeanVal [(.t 7),(.t 9)],nT 11 10])
 (.cond (.t 11)
 (.seq (.ops [mC 4 (.bool false)])
 .ret)
 .skip))
 (.seq (.ops [fA 12 3 3,l1 13 12,lN 14 13,bN 15 .eql (.t 14) (cI 0),mT 5 15])
 (.seq (.seq (.ops [fA 16 0 3,l1 17 16])
 (.block 0 (.seq (.ops [bN 19 .eql (.t 17) (cI 1),mT 18 19])
 (.cond (.t 18)
 (.seq (.draw [mT 20 5,mT 21 20,gF 22 21 true 1 3,g1 23 21 true 22,gM 24 21 true 0,og 25 21 true (.nilck (.t 24)),gF 26 21 true 0 25,gF 27 21 true 3 26,
 g1 28 21 true 27,gN 29 21 true 28,gB 30 21 true .sub (.t 29) (cI 1),gL 31 21 true F.mean_within [(.t 23),(cI 0),(.t 30)],pA 32 21 31,mT 33 32,gF 34 33 true 2 3,
 g1 35 33 true 34,gN 36 33 true 35,gM 37 33 true 0,og 38 33 true (.nilck (.t 37)),gF 39 33 true 0 38,gF 40 33 true 3 39,g1 41 33 true 40,gF 42 33 true 1 3,
 g1 43 33 true 42,og 44 33 true (.ia 2 (.t 41) (.t 43)),gF 45 33 true 1 44,g1 46 33 true 45,gB 47 33 true .eql (.t 36) (.t 46),pA 48 33 47,mT 4 48]
 [])
 .ret)
 (.seq (.ops [bN 50 .eql (.t 17) (cI 2),mT 49 50])
 (.cond (.t 49)
 (.seq (.draw [mT 51 5,mT 52 51,gF 53 52 true 1 3,g1 54 52 true 53,gM 55 52 true 0,og 56 52 true (.nilck (.t 55)),gF 57 52 true 0 56,gF 58 52 true 0 57,
 g1 59 52 true 58,gN 60 52 true 59,gB 61 52 true .sub (.t 60) (cI 1),gL 62 52 true F.mean_within [(.t 54),(cI 0),(.t 61)],pA 63 52 62,mT 64 63,gM 65 64 true 0,
 og 66 64 true (.nilck (.t 65)),gF 67 64 true 0 66,gF 68 64 true 0 67,g1 69 64 true 68,gF 70 64 true 1 3,g1 71 64 true 70,og 72 64 true (.ia 4 (.t 69) (.t 71)),
 gF 73 64 true 0 72,g1 74 64 true 73,gB 75 64 true .eql (.t 74) (cI 5),pA 76 64 75,mT 77 76,gF 78 77 true 2 3,g1 79 77 true 78,gN 80 77 true 79,
 gB 81 77 true .leq (.t 80) (cI 30),pA 82 77 81,mT 4 82]
 [])
 .ret)
 (.seq (.ops [bN 84 .eql (.t 17) (cI 3),mT 83 84])
 (.cond (.t 83)
 (.seq (.ops [mT 85 5,mT 86 85,gF 87 86 true 1 3,g1 88 86 true 87,gB 89 86 true .eql (.t 88) (cI 0),pA 90 86 89,mT 91 90,gF 92 91 true 2 3,g1 93 91 true 92,
 gN 94 91 true 93,gB 95 91 true .eql (.t 94) (cI 1),pA 96 91 95,mT 4 96])
 .ret)
 (.seq (.ops [bN 98 .eql (.t 17) (cI 4),mT 97 98])
 (.cond (.t 97)
 (.seq (.ops [mT 99 5,mT 100 99,gF 101 100 true 1 3,g1 102 100 true 101,gB 103 100 true .eql (.t 102) (cI 0),pA 104 100 103,mT 105 104,gF 106 105 true 2 3,
 g1 107 105 true 106,gN 108 105 true 107,gB 109 105 true .leq (.t 108) (cI 4),pA 110 105 109,mT 4 110])
 .ret)
 (.seq (.ops [bN 112 .eql (.t 17) (cI 5),mT 111 112])
 (.cond (.t 111)
 (.seq (.draw [fA 113 1 3,l1 114 113,bN 115 .eql (.t 114) (cI 0),mT 116 115,gF 117 116 true 2 3,g1 118 116 true 117,gN 119 116 true 118,
 gB 120 116 true .eql (.t 119) (cI 0),pA 121 116 120,mT 122 121,gF 123 122 true 3 3,g1 124 122 true 123,gN 125 122 true 124,gB 126 122 true .gtr (.t 125) (cI 0),
 pA 127 122 126,mT 128 127,gM 129 128 true 0,gF 130 128 true 3 3,g1 131 128 true 130,gL 132 128 true F.mean_runner_frames [(.t 129),(.t 131),(cI 0)],pA 133 128 132,
 mT 134 133,gM 135 134 true 0,og 136 134 true (.nilck (.t 135)),gF 137 134 true 0 136,gF 138 134 true 0 137,g1 139 134 true 138,gF 140 134 true 3 3,g1 141 134 true 140,
 og 142 134 true (.ia 3 (.t 141) (cI 0)),gF 143 134 true 0 142,g1 144 134 true 143,og 145 134 true (.ia 4 (.t 139) (.t 144)),gF 146 134 true 0 145,g1 147 134 true 146,
 gB 148 134 true .eql (.t 147) (cI 26),pA 149 134 148,mT 4 149]
 [])
 .ret)
 (.seq (.ops [bN 151 .eql (.t 17) (cI 6),mT 150 151])
 (.cond (.t 150)
 (.seq (.ops [mT 152 0,lT 153 4 3,cL 154 F.mean_runner_task [(.t 152),(.t 153)],mT 4 154])
 .ret)
 .skip))))))))))))))
 (.seq (.ops [mC 4 (.bool false)])
 .ret))))) }
def C.mean_runner_tasks : LFunc := { np := 1,res := [.tmp 2],keep := false,body :=
 (.seq (.ops [bX 1 1 0,mC 2 (.bool false)])
 (.seq (.ops [o 6 (.mkmap),o 3 (.alloc [.nilm]),sT 1 3 6])
 (.seq (.seq (.ops [l1 7 1,nK 8 7,fA 9 4 8,fA 10 1 9,l1 11 10,lN 12 11,mC 13 (.int .i64 0)])
 (.block 0 (.loop (.seq (.ops [bN 14 .lss (.t 13) (.t 12)])
 (.seq (.cond (.t 14)
 .skip
 (.exit 0))
 (.seq (.block 1 (.seq (.ops [iA 15 1 11 13,l1 16 15,mT 5 16])
 (.seq (.seq (.ops [mT 17 5,l1 18 1,nK 19 18,fA 20 4 19,fA 21 0 20,l1 22 21,lN 23 22,bN 24 .sub (.t 23) (cI 1),cL 25 F.mean_within [(.t 17),(cI 0),(.t 24)],nT 26 25,
 mT 27 26,g1 28 27 false 1,og 29 27 false (.nilck (.t 28)),gF 30 27 false 4 29,gF 31 27 false 0 30,g1 32 27 false 31,gM 33 27 false 5,
 og 34 27 false (.ia 4 (.t 32) (.t 33)),gF 35 27 false 0 34,g1 36 27 false 35,gB 37 27 false .neq (.t 36) (cI 6),pO 38 27 37,mT 39 38,g1 40 39 false 3,gM 41 39 false 5,
 og 42 39 false (.mget .num (.bool false) false (.t 40) (.t 41)),pO 43 39 42])
 (.cond (.t 43)
 (.seq (.ops [mC 2 (.bool false)])
 .ret)
 .skip))
 (.ops [l1 44 3,mT 45 5,on (.mput .num (.t 44) (.t 45) (cB true))]))))
 (.ops [bN 46 .add (.t 13) (cI 1),mT 13 46])))))))
 (.seq (.ops [l1 47 1,nK 48 47,fA 49 4 48,fA 50 0 49,l1 51 50,lN 52 51,cL 53 F.mean_numbers [(.t 52)],cL 54 F.slices_Collect_int [(.t 53)],
 o 55 (.mkfn F.mean_runner_tasks_c1 [] [(.t 3),(.t 1)]),cL 56 F.mean_all_int [(.t 54),(.t 55)],mT 2 56])
 .ret)))) }
def C.mean_all_api_MeanOut : LFunc := { np := 2,res := [.tmp 4],keep := false,body :=
 (.seq (.ops [bX 3 1 1,mC 4 (.bool false)])
 (.seq (.ops [mT 5 0,o 6 (.mkfn F.mean_all_api_MeanOut_c1 [] [(.t 3)]),cL 7 F.slices_ContainsFunc_s_api_MeanOut_api_MeanOut [(.t 5),(.t 6)],nT 8 7,mT 4 8])
 .ret)) }
def C.mean_runner_world_c1 : LFunc := { np := 1,res := [.tmp 2],keep := false,body :=
 (.seq (.ops [bX 1 2 0,mC 2 (.bool false)])
 (.seq (.ops [fA 3 0 1,l1 4 3,cL 5 F.mean_within [(.t 4),(cI 0),(cI 3)],mT 6 5,gF 7 6 true 1 1,g1 8 6 true 7,gL 9 6 true F.mean_integer [(.t 8)],pA 10 6 9,mT 2 10])
 .ret)) }
def C.mean_integer : LFunc := { np := 1,res := [.tmp 2],keep := false,body :=
 (.seq (.ops [mC 2 (.bool false)])
 (.seq (.ops [mT 3 0,cL 4 F.mean_within [(.t 3),(cI (-1000000000)),(cI 1000000000)],mT 2 4])
 .ret)) }
def C.mean_inputs : LFunc := { np := 1,res := [.tmp 2],keep := false,body :=
 (.seq (.ops [mC 2 (.bool false)])
 (.seq (.ops [mT 3 0,lN 4 3,bN 5 .leq (.t 4) (cI 50),mT 6 5,gM 7 6 true 0,gL 8 6 true F.mean_all_int [(.t 7),(.f F.mean_integer)],pA 9 6 8,mT 2 9])
 .ret)) }
def C.slices_Clone_s_api_MeanObj_api_MeanObj : LFunc := { np := 1,res := [.tmp 2],keep := true,amb := true,body :=
 (.seq (.ops [mC 2 (.cl [])])
 (.seq (.seq (.ops [mT 3 0,o 4 (.bin .eql .slice (.t 3) (.c (.es true)))])
 (.cond (.t 4)
 (.seq (.ops [mC 2 (.cl [])])
 .ret)
 .skip))
 (.seq (.ops [o 5 (.bslice 0 4 [(.int .i64 0),(.int .i64 0),(.cl []),(.cl [])] []),mT 6 0,o 7 (.append 4 (.t 5) (.t 6)),mT 2 7])
 .ret))) }
def C.mean_turner_push : LFunc := { np := 2,res := [],keep := false,nrm := [[]],body :=
 (.seq (.opsP [mT 4 0,nK 5 4,fA 6 2 5,l1 7 6,lN 8 7,mT 9 1,lN 10 9,bN 11 .add (.t 8) (.t 10),bN 12 .leq (.t 11) (cI 40),cL 13 F.mean_must [(.t 12),(cI 4)]])
 (.ops [mT 14 0,mT 15 0,nK 16 15,fA 17 2 16,l1 18 17,cL 19 F.slices_Clip_s_api_MeanFrame_api_MeanFrame [(.t 18)],mT 20 1,o 21 (.append 3 (.t 19) (.t 20)),nK 22 14,
 fA 23 2 22,sT 1 23 21])) }
def C.slices_Clip_s_api_MeanVal_api_MeanVal : LFunc := { np := 1,res := [.tmp 2],keep := true,body :=
 (.seq (.ops [mC 2 (.cl [])])
 (.seq (.ops [mT 3 0,mT 4 0,lN 5 4,mT 6 0,lN 7 6,o 8 (.slice false 2 (.t 3) none (some (.t 5)) (some (.t 7))),mT 2 8])
 .ret)) }
def C.mean_asks : LFunc := { np := 1,res := [.tmp 2],keep := false,body :=
 (.seq (.ops [bX 1 4 0,mC 2 (.int .i64 0)])
 (.seq (.seq (.ops [fA 3 0 1,l1 4 3])
 (.block 0 (.seq (.seq (.ops [bN 6 .eql (.t 4) (cI 6),mT 5 6])
 (.cond (.t 5)
 .skip
 (.seq (.ops [bN 7 .eql (.t 4) (cI 9),mT 5 7])
 (.cond (.t 5)
 .skip
 (.seq (.ops [bN 8 .eql (.t 4) (cI 10),mT 5 8])
 (.cond (.t 5)
 .skip
 (.seq (.ops [bN 9 .eql (.t 4) (cI 11),mT 5 9])
 (.cond (.t 5)
 .skip
 (.seq (.ops [bN 10 .eql (.t 4) (cI 12),mT 5 10])
 (.cond (.t 5)
 .skip
 (.seq (.ops [bN 11 .eql (.t 4) (cI 13),mT 5 11])
 (.cond (.t 5)
 .skip
 (.seq (.ops [bN 12 .eql (.t 4) (cI 18),mT 5 12])
 (.cond (.t 5)
 .skip
 (.ops [bN 13 .eql (.t 4) (cI 22),mT 5 13])))))))))))))))
 (.cond (.t 5)
 (.seq (.ops [mC 2 (.int .i64 2)])
 .ret)
 (.seq (.ops [bN 15 .eql (.t 4) (cI 14),mT 14 15])
 (.cond (.t 14)
 (.seq (.ops [fA 16 2 1,l1 17 16,lN 18 17,mT 2 18])
 .ret)
 (.seq (.seq (.ops [bN 20 .eql (.t 4) (cI 7),mT 19 20])
 (.cond (.t 19)
 .skip
 (.seq (.ops [bN 21 .eql (.t 4) (cI 8),mT 19 21])
 (.cond (.t 19)
 .skip
 (.seq (.ops [bN 22 .eql (.t 4) (cI 15),mT 19 22])
 (.cond (.t 19)
 .skip
 (.seq (.ops [bN 23 .eql (.t 4) (cI 16),mT 19 23])
 (.cond (.t 19)
 .skip
 (.seq (.ops [bN 24 .eql (.t 4) (cI 17),mT 19 24])
 (.cond (.t 19)
 .skip
 (.seq (.ops [bN 25 .eql (.t 4) (cI 19),mT 19 25])
 (.cond (.t 19)
 .skip
 (.seq (.ops [bN 26 .eql (.t 4) (cI 20),mT 19 26])
 (.cond (.t 19)
 .skip
 (.seq (.ops [bN 27 .eql (.t 4) (cI 23),mT 19 27])
 (.cond (.t 19)
 .skip
 (.seq (.ops [bN 28 .eql (.t 4) (cI 24),mT 19 28])
 (.cond (.t 19)
 .skip
 (.ops [bN 29 .eql (.t 4) (cI 26),mT 19 29])))))))))))))))))))
 (.cond (.t 19)
 (.seq (.ops [mC 2 (.int .i64 1)])
 .ret)
 .skip))))))))
 (.seq (.ops [mC 2 (.int .i64 0)])
 .ret))) }
def C.mean_turner_goes : LFunc := { np := 3,res := [.tmp 6],keep := false,body :=
 (.seq (.ops [mC 6 .nili])
 (.seq (.opsP [mT 7 0,mT 8 0,nK 9 8,fA 10 6 9,fA 11 2 10,l1 12 11,mT 13 1,iA 14 1 12 13,l1 15 14,mT 16 2,
 o 17 (.build [(.int .i64 0),(.cl []),(.cl [])] [(0,1,(.t 15)),(1,1,(.t 16))]),o 18 (.bslice 1 3 [(.int .i64 0),(.cl []),(.cl [])] [(0,(.t 17))]),
 o 19 (.icall (.f F.mean_turner_push) [(.t 7),(.t 18)])])
 (.seq (.ops [o 20 (.build [] []),o 21 (.iface 255 (.t 20)),mT 6 21])
 .ret))) }
def C.mean_operations : LFunc := { np := 0,res := [.cell 0 true 29],keep := false,body :=
 (.seq (.ops [o 0 (.alloc (List.replicate 29 .nilf))])
 (.seq (.ops [o 1 (.build (List.replicate 29 .nilf) [(1,1,(.f F.mean_turner_constant)),(2,1,(.f F.mean_turner_constant)),(3,1,(.f F.mean_turner_constant)),(4,1,(.f F.mean_turner_name)),(5,1,(.f F.mean_turner_function)),(6,1,(.f F.mean_turner_apply)),(7,1,(.f F.mean_turner_let)),(8,1,(.f F.mean_turner_choice)),(9,1,(.f F.mean_turner_sum)),(10,1,(.f F.mean_turner_sum)),(11,1,(.f F.mean_turner_sum)),(12,1,(.f F.mean_turner_less)),(13,1,(.f F.mean_turner_equal)),(14,1,(.f F.mean_turner_con)),(15,1,(.f F.mean_turner_match)),(16,1,(.f F.mean_turner_cell)),(17,1,(.f F.mean_turner_get)),(18,1,(.f F.mean_turner_put)),(19,1,(.f F.mean_turner_spawn)),(20,1,(.f F.mean_turner_join)),(21,1,(.f F.mean_turner_channel)),(22,1,(.f F.mean_turner_send)),(23,1,(.f F.mean_turner_take)),(24,1,(.f F.mean_turner_out)),(25,1,(.f F.mean_turner_input)),(26,1,(.f F.mean_turner_reset)),(27,1,(.f F.mean_turner_shift)),(28,1,(.f F.mean_turner_pause))]),
 sT 29 0 1])
 .ret)) }
def C.mean_mapped_c1 : LFunc := { np := 2,res := [.tmp 3],keep := false,body :=
 (.seq (.ops [mC 3 (.cl [])])
 (.seq (.ops [mT 6 0,cL 7 F.slices_Clone_s_api_MeanVal_api_MeanVal [(.t 6)],mT 0 7])
 (.seq (.seq (.ops [mT 8 0,lN 9 8,mC 10 (.int .i64 0)])
 (.block 0 (.loop (.seq (.ops [bN 11 .lss (.t 10) (.t 9)])
 (.seq (.cond (.t 11)
 .skip
 (.exit 0))
 (.seq (.block 1 (.seq (.ops [mT 12 10,iA 13 2 8 10,lT 14 2 13,o 5 (.alloc [(.int .i64 0),(.int .i64 0)]),mT 4 12,sT 2 5 14])
 (.seq (.ops [fA 15 0 5,l1 16 15,bN 17 .eql (.t 16) (cI 5)])
 (.cond (.t 17)
 (.ops [mT 18 0,mT 19 4,l1 20 1,fA 21 1 5,l1 22 21,o 23 (.call (.t 20) [(.t 22)]),iA 24 2 18 19,fA 25 1 24,sT 1 25 23])
 .skip))))
 (.ops [bN 26 .add (.t 10) (cI 1),mT 10 26])))))))
 (.seq (.ops [mT 27 0,mT 3 27])
 .ret)))) }
def C.slices_Clone_s_api_MeanFrame_api_MeanFrame : LFunc := { np := 1,res := [.tmp 2],keep := true,amb := true,body :=
 (.seq (.ops [mC 2 (.cl [])])
 (.seq (.seq (.ops [mT 3 0,o 4 (.bin .eql .slice (.t 3) (.c (.es true)))])
 (.cond (.t 4)
 (.seq (.ops [mC 2 (.cl [])])
 .ret)
 .skip))
 (.seq (.ops [o 5 (.bslice 0 3 [(.int .i64 0),(.cl []),(.cl [])] []),mT 6 0,o 7 (.append 3 (.t 5) (.t 6)),mT 2 7])
 .ret))) }
def C.mean_runner_ready : LFunc := { np := 1,res := [.tmp 2],keep := true,body :=
 (.seq (.ops [mC 2 (.cl [])])
 (.seq (.ops [mC 3 (.cl [])])
 (.seq (.seq (.ops [mT 5 0,nK 6 5,fA 7 4 6,fA 8 1 7,l1 9 8,lN 10 9,mC 11 (.int .i64 0)])
 (.block 0 (.loop (.seq (.ops [bN 12 .lss (.t 11) (.t 10)])
 (.seq (.cond (.t 12)
 .skip
 (.exit 0))
 (.seq (.block 1 (.seq (.ops [mT 13 11,mT 4 13])
 (.seq (.ops [mT 14 0,mT 15 4,cL 16 F.mean_runner_next [(.t 14),(.t 15)],bN 17 .neq (.t 16) (cI 2)])
 (.cond (.t 17)
 (.ops [mT 18 3,mT 19 4,o 20 (.bslice 1 1 [(.int .i64 0)] [(0,(.t 19))]),o 21 (.append 1 (.t 18) (.t 20)),mT 3 21])
 .skip))))
 (.ops [bN 22 .add (.t 11) (cI 1),mT 11 22])))))))
 (.seq (.ops [mT 23 3,mT 2 23])
 .ret)))) }
def C.R02_List : LFunc := { np := 1,res := [.tmp 2,.tmp 3],keep := false,body :=
 (.seq (.ops [mC 2 (.cl []),mC 3 (.int .i64 0)])
 (.seq (.ops [mC 4 (.cl [])])
 (.seq (.ops [mT 7 0,cL 8 F.R02_skipped [(.t 7),(cI 0)],mT 5 8])
 (.seq (.block 0 (.loop (.seq (.seq (.ops [mT 9 5,mT 10 0,o 11 (.len .str (.t 10)),bN 12 .lss (.t 9) (.t 11)])
 (.cond (.t 12)
 .skip
 (.exit 0)))
 (.block 1 (.seq (.ops [mT 13 0,mT 14 5,cL 15 F.R02_next [(.t 13),(.t 14)],o 6 (.alloc [(.int .i64 0),(.str ⟨#[]⟩),(.int .i64 0),(.int .i64 0)]),sT 4 6 15])
 (.seq (.seq (.ops [fA 16 0 6,l1 17 16,bN 18 .eql (.t 17) (cI 0)])
 (.cond (.t 18)
 (.seq (.ops [mT 19 4,mT 20 5,mT 2 19,mT 3 20])
 .ret)
 .skip))
 (.seq (.ops [mT 21 4,lT 22 4 6,o 23 (.bslice 1 4 [(.int .i64 0),(.str ⟨#[]⟩),(.int .i64 0),(.int .i64 0)] [(0,(.t 22))]),o 24 (.append 4 (.t 21) (.t 23)),mT 4 24])
 (.ops [mT 25 0,mT 26 5,fA 27 1 6,l1 28 27,o 29 (.len .str (.t 28)),bN 30 .add (.t 26) (.t 29),cL 31 F.R02_skipped [(.t 25),(.t 30)],mT 5 31]))))))))
 (.seq (.ops [mT 32 4,mT 33 0,o 34 (.len .str (.t 33)),mT 2 32,mT 3 34])
 .ret))))) }
def C.R02_reader_is : LFunc := { np := 2,res := [.tmp 4],keep := false,body :=
 (.seq (.ops [mC 4 (.bool false)])
 (.seq (.draw [mT 5 0,nK 6 5,fA 7 2 6,l1 8 7,nT 9 8,mT 10 9,gM 11 10 true 0,og 12 10 true (.nilck (.t 11)),gF 13 10 true 1 12,g1 14 10 true 13,gM 15 10 true 0,
 og 16 10 true (.nilck (.t 15)),gF 17 10 true 0 16,g1 18 10 true 17,gN 19 10 true 18,gB 20 10 true .lss (.t 14) (.t 19),pA 21 10 20,mT 22 21,gM 23 22 true 0,
 og 24 22 true (.nilck (.t 23)),gF 25 22 true 0 24,g1 26 22 true 25,gM 27 22 true 0,og 28 22 true (.nilck (.t 27)),gF 29 22 true 1 28,g1 30 22 true 29,
 og 31 22 true (.ia 4 (.t 26) (.t 30)),gF 32 22 true 0 31,g1 33 22 true 32,gM 34 22 true 1,gB 35 22 true .eql (.t 33) (.t 34),pA 36 22 35,mT 4 36]
 [])
 .ret)) }
def C.R02_reader_sees : LFunc := { np := 2,res := [.tmp 4],keep := false,body :=
 (.seq (.ops [mC 4 (.bool false)])
 (.seq (.seq (.draw [mT 6 0,nK 7 6,fA 8 2 7,l1 9 8,mT 10 9,gM 11 10 false 0,og 12 10 false (.nilck (.t 11)),gF 13 10 false 1 12,g1 14 10 false 13,gM 15 10 false 0,
 og 16 10 false (.nilck (.t 15)),gF 17 10 false 0 16,g1 18 10 false 17,gN 19 10 false 18,gB 20 10 false .geq (.t 14) (.t 19),pO 21 10 20]
 [])
 (.cond (.t 21)
 (.seq (.ops [mC 4 (.bool false)])
 .ret)
 .skip))
 (.seq (.draw [mT 22 0,nK 23 22,fA 24 0 23,l1 25 24,mT 26 0,nK 27 26,fA 28 1 27,l1 29 28,iA 30 4 25 29,lT 31 4 30,
 o 5 (.alloc [(.int .i64 0),(.str ⟨#[]⟩),(.int .i64 0),(.int .i64 0)]),sT 4 5 31]
 [(3,10),(7,10),(8,10),(9,10)])
 (.seq (.ops [fA 32 0 5,l1 33 32,bN 34 .eql (.t 33) (cI 5),mT 35 34,gF 36 35 false 0 5,g1 37 35 false 36,gB 38 35 false .eql (.t 37) (cI 3),pO 39 35 38,mT 40 39,
 gF 41 40 true 1 5,g1 42 40 true 41,gM 43 40 true 1,og 44 40 true (.bin .eql .str (.t 42) (.t 43)),pA 45 40 44,mT 4 45])
 .ret)))) }
def C.R02_reader_kind : LFunc := { np := 1,res := [.cell 2 true 4],keep := false,body :=
 (.seq (.ops [o 2 (.alloc [(.int .i64 0),(.int .i64 0),(.str ⟨#[]⟩),(.cl [])])])
 (.seq (.ops [mT 5 0,o 6 (.icall (.f F.R02_reader_simple) [(.t 5)]),o 3 (.alloc [(.int .i64 0),(.int .i64 0),(.str ⟨#[]⟩),(.cl [])]),sT 4 3 6])
 (.seq (.seq (.ops [mT 7 0,o 8 (.icall (.f F.R02_reader_has) [(.t 7),(.c (.str ⟨#[45,62]⟩))])])
 (.cond (.t 8)
 (.seq (.ops [mT 9 0,o 10 (.icall (.f F.R02_reader_kind) [(.t 9)]),o 4 (.alloc [(.int .i64 0),(.int .i64 0),(.str ⟨#[]⟩),(.cl [])]),sT 4 4 10])
 (.seq (.ops [lT 11 4 3,lT 12 4 4,o 13 (.bslice 2 4 [(.int .i64 0),(.int .i64 0),(.str ⟨#[]⟩),(.cl [])] [(0,(.t 11)),(1,(.t 12))]),
 o 14 (.build [(.int .i64 0),(.int .i64 0),(.str ⟨#[]⟩),(.cl [])] [(0,1,(cI 4)),(3,1,(.t 13))]),sT 4 2 14])
 .ret))
 .skip))
 (.seq (.ops [lT 15 4 3,sT 4 2 15])
 .ret)))) }
def C.R02_reader_term : LFunc := { np := 1,res := [.cell 2 true 5],keep := false,body :=
 (.seq (.ops [o 2 (.alloc [(.int .i64 0),(.int .i64 0),(.str ⟨#[]⟩),(.cl []),(.cl [])])])
 (.seq (.block 0 (.seq (.ops [mT 13 0,o 14 (.icall (.f F.R02_reader_has) [(.t 13),(.c (.str ⟨#[102,117,110]⟩))]),mT 12 14])
 (.cond (.t 12)
 (.seq (.ops [mT 15 0,o 16 (.icall (.f F.R02_reader_under) [(.t 15),(cI 5)]),sT 5 2 16])
 .ret)
 (.seq (.ops [mT 18 0,o 19 (.icall (.f F.R02_reader_has) [(.t 18),(.c (.str ⟨#[115,104,105,102,116]⟩))]),mT 17 19])
 (.cond (.t 17)
 (.seq (.ops [mT 20 0,o 21 (.icall (.f F.R02_reader_under) [(.t 20),(cI 27)]),sT 5 2 21])
 .ret)
 (.seq (.ops [mT 23 0,o 24 (.icall (.f F.R02_reader_has) [(.t 23),(.c (.str ⟨#[108,101,116]⟩))]),mT 22 24])
 (.cond (.t 22)
 (.seq (.ops [mT 25 0,o 26 (.icall (.f F.R02_reader_take) [(.t 25),(cI 1)]),o 27 (.fld false 1 1 (.t 26)),
 o 28 (.build [(.int .i64 0),(.int .i64 0),(.str ⟨#[]⟩),(.cl []),(.cl [])] [(0,1,(cI 7)),(2,1,(.t 27))]),
 o 3 (.alloc [(.int .i64 0),(.int .i64 0),(.str ⟨#[]⟩),(.cl []),(.cl [])]),sT 5 3 28])
 (.seq (.ops [mT 29 0,o 30 (.icall (.f F.R02_reader_want) [(.t 29),(.c (.str ⟨#[61]⟩))])])
 (.seq (.ops [mT 31 0,o 32 (.icall (.f F.R02_reader_term) [(.t 31)]),o 4 (.alloc [(.int .i64 0),(.int .i64 0),(.str ⟨#[]⟩),(.cl []),(.cl [])]),sT 5 4 32])
 (.seq (.ops [mT 33 0,o 34 (.icall (.f F.R02_reader_want) [(.t 33),(.c (.str ⟨#[105,110]⟩))])])
 (.seq (.ops [mT 35 0,o 36 (.icall (.f F.R02_reader_term) [(.t 35)]),o 5 (.alloc [(.int .i64 0),(.int .i64 0),(.str ⟨#[]⟩),(.cl []),(.cl [])]),sT 5 5 36])
 (.seq (.ops [lT 37 5 4,lT 38 5 5,o 39 (.bslice 2 5 [(.int .i64 0),(.int .i64 0),(.str ⟨#[]⟩),(.cl []),(.cl [])] [(0,(.t 37)),(1,(.t 38))]),fA 40 3 3,sT 1 40 39])
 (.seq (.ops [lT 41 5 3,sT 5 2 41])
 .ret)))))))
 (.seq (.ops [mT 43 0,o 44 (.icall (.f F.R02_reader_has) [(.t 43),(.c (.str ⟨#[105,102]⟩))]),mT 42 44])
 (.cond (.t 42)
 (.seq (.ops [mT 45 0,o 46 (.icall (.f F.R02_reader_term) [(.t 45)]),o 6 (.alloc [(.int .i64 0),(.int .i64 0),(.str ⟨#[]⟩),(.cl []),(.cl [])]),sT 5 6 46])
 (.seq (.ops [mT 47 0,o 48 (.icall (.f F.R02_reader_want) [(.t 47),(.c (.str ⟨#[116,104,101,110]⟩))])])
 (.seq (.ops [mT 49 0,o 50 (.icall (.f F.R02_reader_term) [(.t 49)]),o 7 (.alloc [(.int .i64 0),(.int .i64 0),(.str ⟨#[]⟩),(.cl []),(.cl [])]),sT 5 7 50])
 (.seq (.ops [mT 51 0,o 52 (.icall (.f F.R02_reader_want) [(.t 51),(.c (.str ⟨#[101,108,115,101]⟩))])])
 (.seq (.ops [mT 53 0,o 54 (.icall (.f F.R02_reader_term) [(.t 53)]),o 8 (.alloc [(.int .i64 0),(.int .i64 0),(.str ⟨#[]⟩),(.cl []),(.cl [])]),sT 5 8 54])
 (.seq (.ops [lT 55 5 6,lT 56 5 7,lT 57 5 8,o 58 (.bslice 3 5 [(.int .i64 0),(.int .i64 0),(.str ⟨#[]⟩),(.cl []),(.cl [])] [(0,(.t 55)),(1,(.t 56)),(2,(.t 57))]),
 o 59 (.build [(.int .i64 0),(.int .i64 0),(.str ⟨#[]⟩),(.cl []),(.cl [])] [(0,1,(cI 8)),(3,1,(.t 58))]),sT 5 2 59])
 .ret))))))
 .skip)))))))))
 (.seq (.ops [mT 60 0,o 61 (.icall (.f F.R02_reader_sum) [(.t 60)]),o 9 (.alloc [(.int .i64 0),(.int .i64 0),(.str ⟨#[]⟩),(.cl []),(.cl [])]),sT 5 9 61])
 (.seq (.seq (.ops [mT 62 0,o 63 (.icall (.f F.R02_reader_has) [(.t 62),(.c (.str ⟨#[60]⟩))])])
 (.cond (.t 63)
 (.seq (.ops [mT 64 0,o 65 (.icall (.f F.R02_reader_sum) [(.t 64)]),o 10 (.alloc [(.int .i64 0),(.int .i64 0),(.str ⟨#[]⟩),(.cl []),(.cl [])]),sT 5 10 65])
 (.seq (.ops [lT 66 5 9,lT 67 5 10,cL 68 F.R02_two [(cI 12),(.t 66),(.t 67)],sT 5 2 68])
 .ret))
 .skip))
 (.seq (.seq (.ops [mT 69 0,o 70 (.icall (.f F.R02_reader_has) [(.t 69),(.c (.str ⟨#[61,61]⟩))])])
 (.cond (.t 70)
 (.seq (.ops [mT 71 0,o 72 (.icall (.f F.R02_reader_sum) [(.t 71)]),o 11 (.alloc [(.int .i64 0),(.int .i64 0),(.str ⟨#[]⟩),(.cl []),(.cl [])]),sT 5 11 72])
 (.seq (.ops [lT 73 5 9,lT 74 5 11,cL 75 F.R02_two [(cI 13),(.t 73),(.t 74)],sT 5 2 75])
 .ret))
 .skip))
 (.seq (.ops [lT 76 5 9,sT 5 2 76])
 .ret)))))) }
def C.R01_Key : LFunc := { np := 1,res := [.tmp 2],keep := false,body :=
 (.seq (.ops [mC 2 (.bool false)])
 (.seq (.ops [cL 3 F.R01_keywords [],mT 4 0,cL 5 F.R01_Has [(.t 3),(.t 4)],mT 2 5])
 .ret)) }
def C.R01_WeighType : LFunc := { np := 2,res := [.tmp 4],keep := false,body :=
 (.seq (.ops [bX 2 4 0,mC 4 (.int .i64 0)])
 (.seq (.seq (.ops [mT 6 1,bN 7 .lss (.t 6) (cI 1)])
 (.cond (.t 7)
 (.seq (.ops [mC 4 (.int .i64 (-1))])
 .ret)
 .skip))
 (.seq (.ops [mT 8 1,bN 9 .sub (.t 8) (cI 1),mT 1 9])
 (.seq (.seq (.ops [mC 5 (.int .i64 0)])
 (.block 0 (.loop (.seq (.seq (.ops [mT 10 5,fA 11 3 2,l1 12 11,lN 13 12,bN 14 .lss (.t 10) (.t 13),mT 15 14,gM 16 15 true 1,gB 17 15 true .geq (.t 16) (cI 0),
 pA 18 15 17])
 (.cond (.t 18)
 .skip
 (.exit 0)))
 (.seq (.block 1 (.ops [fA 21 3 2,l1 22 21,mT 23 5,iA 24 4 22 23,lT 25 4 24,mT 26 1,cL 27 F.R01_WeighType [(.t 25),(.t 26)],mT 1 27]))
 (.ops [mT 19 5,bN 20 .add (.t 19) (cI 1),mT 5 20]))))))
 (.seq (.ops [mT 28 1,mT 4 28])
 .ret))))) }
def C.R01_sorts : LFunc := { np := 2,res := [.tmp 4],keep := false,body :=
 (.seq (.ops [bX 2 4 0,mC 4 (.bool false)])
 (.seq (.ops [fA 8 3 2,l1 9 8,lN 10 9,mT 5 10])
 (.seq (.ops [mC 6 (.bool false)])
 (.seq (.seq (.ops [fA 11 0 2,l1 12 11])
 (.block 0 (.seq (.seq (.ops [bN 14 .eql (.t 12) (cI 1),mT 13 14])
 (.cond (.t 13)
 .skip
 (.seq (.ops [bN 15 .eql (.t 12) (cI 2),mT 13 15])
 (.cond (.t 13)
 .skip
 (.ops [bN 16 .eql (.t 12) (cI 3),mT 13 16])))))
 (.cond (.t 13)
 (.ops [mT 17 5,bN 18 .eql (.t 17) (cI 0),mT 19 18,gF 20 19 true 1 2,g1 21 19 true 20,gB 22 19 true .eql (.t 21) (cI 0),pA 23 19 22,mT 24 23,gF 25 24 true 2 2,
 g1 26 24 true 25,og 27 24 true (.bin .eql .str (.t 26) (.c (.str ⟨#[]⟩))),pA 28 24 27,mT 6 28])
 (.seq (.ops [bN 30 .eql (.t 12) (cI 4),mT 29 30])
 (.cond (.t 29)
 (.ops [mT 31 5,bN 32 .eql (.t 31) (cI 2),mT 33 32,gF 34 33 true 1 2,g1 35 33 true 34,gB 36 33 true .eql (.t 35) (cI 0),pA 37 33 36,mT 38 37,gF 39 38 true 2 2,
 g1 40 38 true 39,og 41 38 true (.bin .eql .str (.t 40) (.c (.str ⟨#[]⟩))),pA 42 38 41,mT 6 42])
 (.seq (.seq (.ops [bN 44 .eql (.t 12) (cI 5),mT 43 44])
 (.cond (.t 43)
 .skip
 (.seq (.ops [bN 45 .eql (.t 12) (cI 6),mT 43 45])
 (.cond (.t 43)
 .skip
 (.ops [bN 46 .eql (.t 12) (cI 7),mT 43 46])))))
 (.cond (.t 43)
 (.ops [mT 47 5,bN 48 .eql (.t 47) (cI 1),mT 49 48,gF 50 49 true 1 2,g1 51 49 true 50,gB 52 49 true .eql (.t 51) (cI 0),pA 53 49 52,mT 54 53,gF 55 54 true 2 2,
 g1 56 54 true 55,og 57 54 true (.bin .eql .str (.t 56) (.c (.str ⟨#[]⟩))),pA 58 54 57,mT 6 58])
 (.seq (.ops [bN 60 .eql (.t 12) (cI 8),mT 59 60])
 (.cond (.t 59)
 (.ops [mT 61 5,bN 62 .eql (.t 61) (cI 0),mT 63 62,gF 64 63 true 1 2,g1 65 63 true 64,gB 66 63 true .eql (.t 65) (cI 0),pA 67 63 66,mT 68 67,gF 69 68 true 2 2,
 g1 70 68 true 69,gL 71 68 true F.R01_Great [(.t 70)],pA 72 68 71,mT 6 72])
 (.seq (.ops [bN 74 .eql (.t 12) (cI 9),mT 73 74])
 (.cond (.t 73)
 (.ops [mT 75 1,mT 76 75,gM 77 76 true 5,gB 78 76 true .eql (.t 77) (cI 0),pA 79 76 78,mT 80 79,gF 81 80 true 2 2,g1 82 80 true 81,
 og 83 80 true (.bin .eql .str (.t 82) (.c (.str ⟨#[]⟩))),pA 84 80 83,mT 85 84,gF 86 85 true 1 2,g1 87 85 true 86,gL 88 85 true F.R01_in [(.t 87),(cI 0),(cI 99)],
 pA 89 85 88,mT 6 89])
 .skip))))))))))))
 (.seq (.seq (.ops [mC 7 (.int .i64 0)])
 (.block 1 (.loop (.seq (.seq (.ops [mT 90 7,mT 91 5,bN 92 .lss (.t 90) (.t 91),mT 93 92,gM 94 93 true 6,pA 95 93 94])
 (.cond (.t 95)
 .skip
 (.exit 1)))
 (.seq (.block 2 (.ops [fA 98 3 2,l1 99 98,mT 100 7,iA 101 4 99 100,lT 102 4 101,mT 103 1,cL 104 F.R01_sorts [(.t 102),(.t 103)],mT 6 104]))
 (.ops [mT 96 7,bN 97 .add (.t 96) (cI 1),mT 7 97]))))))
 (.seq (.ops [mT 105 6,mT 4 105])
 .ret)))))) }
def C.R01_Weigh : LFunc := { np := 3,res := [.tmp 6],keep := false,body :=
 (.seq (.ops [bX 3 5 0,mC 6 (.int .i64 0)])
 (.seq (.seq (.ops [mT 8 1,bN 9 .lss (.t 8) (cI 1),mT 10 9,gM 11 10 false 2,gB 12 10 false .lss (.t 11) (cI 1),pO 13 10 12])
 (.cond (.t 13)
 (.seq (.ops [mC 6 (.int .i64 (-1))])
 .ret)
 .skip))
 (.seq (.ops [mT 14 1,bN 15 .sub (.t 14) (cI 1),mT 1 15])
 (.seq (.seq (.ops [mC 7 (.int .i64 0)])
 (.block 0 (.loop (.seq (.seq (.ops [mT 16 7,fA 17 3 3,l1 18 17,lN 19 18,bN 20 .lss (.t 16) (.t 19),mT 21 20,gM 22 21 true 1,gB 23 21 true .geq (.t 22) (cI 0),
 pA 24 21 23])
 (.cond (.t 24)
 .skip
 (.exit 0)))
 (.seq (.block 1 (.ops [fA 27 3 3,l1 28 27,mT 29 7,iA 30 5 28 29,lT 31 5 30,mT 32 1,mT 33 2,bN 34 .sub (.t 33) (cI 1),cL 35 F.R01_Weigh [(.t 31),(.t 32),(.t 34)],
 mT 1 35]))
 (.ops [mT 25 7,bN 26 .add (.t 25) (cI 1),mT 7 26]))))))
 (.seq (.ops [mT 36 1,mT 6 36])
 .ret))))) }
def C.R01_nodes : LFunc := { np := 1,res := [.tmp 2],keep := false,body :=
 (.seq (.ops [bX 1 5 0,mC 2 (.bool false)])
 (.seq (.seq (.ops [lT 5 5 1,cL 6 F.R01_node [(.t 5)],nT 7 6])
 (.cond (.t 7)
 (.seq (.ops [mC 2 (.bool false)])
 .ret)
 .skip))
 (.seq (.seq (.ops [mC 3 (.int .i64 0)])
 (.block 0 (.loop (.seq (.seq (.ops [mT 8 3,fA 9 4 1,l1 10 9,lN 11 10,bN 12 .lss (.t 8) (.t 11)])
 (.cond (.t 12)
 .skip
 (.exit 0)))
 (.seq (.block 1 (.seq (.ops [fA 15 4 1,l1 16 15,mT 17 3,iA 18 4 16 17,lT 19 4 18,cL 20 F.R01_Pat [(.t 19)],nT 21 20])
 (.cond (.t 21)
 (.seq (.ops [mC 2 (.bool false)])
 .ret)
 .skip)))
 (.ops [mT 13 3,bN 14 .add (.t 13) (cI 1),mT 3 14]))))))
 (.seq (.seq (.ops [mC 4 (.int .i64 0)])
 (.block 2 (.loop (.seq (.seq (.ops [mT 22 4,fA 23 3 1,l1 24 23,lN 25 24,bN 26 .lss (.t 22) (.t 25)])
 (.cond (.t 26)
 .skip
 (.exit 2)))
 (.seq (.block 3 (.seq (.ops [fA 29 3 1,l1 30 29,mT 31 4,iA 32 5 30 31,lT 33 5 32,cL 34 F.R01_nodes [(.t 33)],nT 35 34])
 (.cond (.t 35)
 (.seq (.ops [mC 2 (.bool false)])
 .ret)
 .skip)))
 (.ops [mT 27 4,bN 28 .add (.t 27) (cI 1),mT 4 28]))))))
 (.seq (.ops [mC 2 (.bool true)])
 .ret))))) }
def C.bind_in : LFunc := { np := 3,res := [.tmp 6],keep := false,body :=
 (.seq (.ops [mC 6 (.bool false)])
 (.seq (.ops [mT 7 0,mT 8 1,bN 9 .geq (.t 7) (.t 8),mT 10 9,gM 11 10 true 0,gM 12 10 true 2,gB 13 10 true .leq (.t 11) (.t 12),pA 14 10 13,mT 6 14])
 .ret)) }
def C.bind_every_api_BindCon : LFunc := { np := 2,res := [.tmp 4],keep := false,body :=
 (.seq (.ops [bX 3 1 1,mC 4 (.bool false)])
 (.seq (.ops [mT 5 0,o 6 (.mkfn F.bind_every_api_BindCon_c1 [] [(.t 3)]),cL 7 F.slices_ContainsFunc_s_api_BindCon_api_BindCon [(.t 5),(.t 6)],nT 8 7,mT 4 8])
 .ret)) }
def C.bind_differ : LFunc := { np := 1,res := [.tmp 2],keep := false,body :=
 (.seq (.ops [mC 2 (.bool false)])
 (.seq (.ops [o 6 (.mkmap),mT 3 6])
 (.seq (.seq (.ops [mT 7 0,lN 8 7,mC 9 (.int .i64 0)])
 (.block 0 (.loop (.seq (.ops [bN 10 .lss (.t 9) (.t 8)])
 (.seq (.cond (.t 10)
 .skip
 (.exit 0))
 (.seq (.block 1 (.seq (.ops [iA 11 1 7 9,l1 12 11,mT 5 12])
 (.ops [mT 13 3,mT 14 5,on (.mput .str (.t 13) (.t 14) (cB true))])))
 (.ops [bN 15 .add (.t 9) (cI 1),mT 9 15])))))))
 (.seq (.ops [mT 16 3,o 17 (.len .map (.t 16)),mT 18 0,lN 19 18,bN 20 .eql (.t 17) (.t 19),mT 2 20])
 .ret)))) }
def C.bind_mapped_api_BindCon_string : LFunc := { np := 2,res := [.tmp 4],keep := false,body :=
 (.seq (.ops [mC 4 (.cl [])])
 (.seq (.ops [mC 5 (.cl [])])
 (.seq (.seq (.ops [mT 8 0,lN 9 8,mC 10 (.int .i64 0)])
 (.block 0 (.loop (.seq (.ops [bN 11 .lss (.t 10) (.t 9)])
 (.seq (.cond (.t 11)
 .skip
 (.exit 0))
 (.seq (.block 1 (.seq (.ops [iA 12 2 8 10,lT 13 2 12,o 7 (.alloc [(.str ⟨#[]⟩),(.int .i64 0)]),sT 2 7 13])
 (.ops [mT 14 5,mT 15 1,lT 16 2 7,o 17 (.call (.t 15) [(.t 16)]),o 18 (.bslice 1 1 [(.str ⟨#[]⟩)] [(0,(.t 17))]),o 19 (.append 1 (.t 14) (.t 18)),mT 5 19])))
 (.ops [bN 20 .add (.t 10) (cI 1),mT 10 20])))))))
 (.seq (.ops [mT 21 5,mT 4 21])
 .ret)))) }
def C.bind_every_api_BindNode : LFunc := { np := 2,res := [.tmp 4],keep := false,body :=
 (.seq (.ops [bX 3 1 1,mC 4 (.bool false)])
 (.seq (.ops [mT 5 0,o 6 (.mkfn F.bind_every_api_BindNode_c1 [] [(.t 3)]),cL 7 F.slices_ContainsFunc_s_api_BindNode_api_BindNode [(.t 5),(.t 6)],nT 8 7,mT 4 8])
 .ret)) }
def C.bind_program_node : LFunc := { np := 2,res := [.tmp 4],keep := false,body :=
 (.seq (.ops [bX 2 4 0,bX 3 4 1,mC 4 (.bool false)])
 (.seq (.ops [fA 7 0 3,l1 8 7,cL 9 F.bind_kidsOf [(.t 8)],mT 5 9])
 (.seq (.seq (.ops [mT 10 5])
 (.block 0 (.seq (.ops [o 15 (.bin .eql .iface (.t 10) (.c .nili))])
 (.cond (.t 15)
 (.seq (.ops [mC 4 (.bool false)])
 .ret)
 (.seq (.ops [o 16 (.assert 355 (.agg []) true (.t 10)),o 17 (.ext 1 (.t 16)),o 18 (.ext 0 (.t 16))])
 (.cond (.t 17)
 .skip
 (.seq (.ops [fA 11 3 3,l1 12 11,lN 13 12,bN 14 .gtr (.t 13) (cI 0)])
 (.cond (.t 14)
 (.seq (.ops [mC 4 (.bool false)])
 .ret)
 .skip))))))))
 (.seq (.ops [o 19 (.mkfn F.bind_program_node_c1 [] [(.t 2)]),mT 6 19])
 (.seq (.ops [mT 20 5,lT 21 4 2,lT 22 4 3,o 23 (.call (.m [(355,F.bind_ofMatch_fine),(381,F.bind_fixed_fine),(382,F.bind_ofCon_fine)] 20) [(.t 21),(.t 22)]),mT 24 23,
 gT 25 24 true 4 2,gT 26 24 true 4 3,gL 27 24 true F.bind_program_number [(.t 25),(.t 26)],pA 28 24 27,mT 29 28,gF 30 29 true 3 3,g1 31 29 true 30,gM 32 29 true 6,
 gL 33 29 true F.bind_every_api_TermPat [(.t 31),(.t 32)],pA 34 29 33,mT 4 34])
 .ret))))) }
def C.bind_every_int : LFunc := { np := 2,res := [.tmp 4],keep := false,body :=
 (.seq (.ops [bX 3 1 1,mC 4 (.bool false)])
 (.seq (.ops [mT 5 0,o 6 (.mkfn F.bind_every_int_c1 [] [(.t 3)]),cL 7 F.slices_ContainsFunc_s_int_int [(.t 5),(.t 6)],nT 8 7,mT 4 8])
 .ret)) }
def C.bind_program_formed_c2 : LFunc := { np := 1,res := [.tmp 2],keep := false,body :=
 (.seq (.ops [mC 2 (.bool false)])
 (.seq (.ops [mT 3 0,bN 4 .eql (.t 3) (cI 1),mT 2 4])
 .ret)) }
def C.slices_ContainsFunc_s_api_MeanObj_api_MeanObj : LFunc := { np := 2,res := [.tmp 4],keep := false,body :=
 (.seq (.ops [mC 4 (.bool false)])
 (.seq (.ops [mT 5 0,mT 6 1,cL 7 F.slices_IndexFunc_s_api_MeanObj_api_MeanObj [(.t 5),(.t 6)],bN 8 .geq (.t 7) (cI 0),mT 4 8])
 .ret)) }
def C.mean_all_api_MeanObj_c1 : LFunc := { np := 2,res := [.tmp 3],keep := false,body :=
 (.seq (.ops [bX 2 4 0,mC 3 (.bool false)])
 (.seq (.ops [l1 4 1,lT 5 4 2,o 6 (.call (.t 4) [(.t 5)]),nT 7 6,mT 3 7])
 .ret)) }
def C.mean_all_api_MeanVal : LFunc := { np := 2,res := [.tmp 4],keep := false,body :=
 (.seq (.ops [bX 3 1 1,mC 4 (.bool false)])
 (.seq (.ops [mT 5 0,o 6 (.mkfn F.mean_all_api_MeanVal_c1 [] [(.t 3)]),cL 7 F.slices_ContainsFunc_s_api_MeanVal_api_MeanVal [(.t 5),(.t 6)],nT 8 7,mT 4 8])
 .ret)) }
def C.mean_runner_value : LFunc := { np := 2,res := [.tmp 4],keep := false,body :=
 (.seq (.ops [bX 3 2 1,mC 4 (.bool false)])
 (.seq (.seq (.ops [fA 5 0 3,l1 6 5])
 (.block 0 (.seq (.ops [bN 8 .eql (.t 6) (cI 1),mT 7 8])
 (.cond (.t 7)
 (.seq (.ops [fA 9 1 3,l1 10 9,cL 11 F.mean_integer [(.t 10)],mT 4 11])
 .ret)
 (.seq (.ops [bN 13 .eql (.t 6) (cI 2),mT 12 13])
 (.cond (.t 12)
 (.seq (.ops [fA 14 1 3,l1 15 14,cL 16 F.mean_within [(.t 15),(cI 0),(cI 1)],mT 4 16])
 .ret)
 (.seq (.ops [bN 18 .eql (.t 6) (cI 3),mT 17 18])
 (.cond (.t 17)
 (.seq (.ops [fA 19 1 3,l1 20 19,bN 21 .eql (.t 20) (cI 0),mT 4 21])
 .ret)
 (.seq (.ops [bN 23 .eql (.t 6) (cI 4),mT 22 23])
 (.cond (.t 22)
 (.seq (.draw [fA 24 1 3,l1 25 24,mT 26 0,nK 27 26,fA 28 0 27,fA 29 1 28,l1 30 29,lN 31 30,bN 32 .sub (.t 31) (cI 1),cL 33 F.mean_within [(.t 25),(cI 0),(.t 32)],
 mT 4 33]
 [])
 .ret)
 (.seq (.ops [bN 35 .eql (.t 6) (cI 5),mT 34 35])
 (.cond (.t 34)
 (.seq (.draw [fA 36 1 3,l1 37 36,mT 38 0,nK 39 38,fA 40 4 39,fA 41 0 40,l1 42 41,lN 43 42,bN 44 .sub (.t 43) (cI 1),cL 45 F.mean_within [(.t 37),(cI 0),(.t 44)],
 mT 4 45]
 [])
 .ret)
 .skip))))))))))))
 (.seq (.ops [mC 4 (.bool false)])
 .ret))) }
def C.mean_runner_frames : LFunc := { np := 3,res := [.tmp 6],keep := false,body :=
 (.seq (.ops [mC 6 (.bool false)])
 (.seq (.ops [mT 7 1,lN 8 7,bN 9 .leq (.t 8) (cI 40),mT 10 9,gM 11 10 true 1,gM 12 10 true 0,og 13 10 true (.mkfn F.mean_runner_frame [(.t 12)] []),
 gL 14 10 true F.mean_all_api_MeanFrame [(.t 11),(.t 13)],pA 15 10 14,mT 16 15,gM 17 16 true 1,gM 18 16 true 1,gN 19 16 true 18,gM 20 16 true 2,
 gB 21 16 true .sub (.t 19) (.t 20),og 22 16 true (.minmax true [(cI 0),(.t 21)]),og 23 16 true (.slice false 3 (.t 17) none (some (.t 22)) none),gM 24 16 true 0,
 og 25 16 true (.mkfn F.mean_runner_open [(.t 24)] []),gL 26 16 true F.mean_all_api_MeanFrame [(.t 23),(.t 25)],pA 27 16 26,mT 6 27])
 .ret)) }
def C.mean_runner_task : LFunc := { np := 2,res := [.tmp 4],keep := false,body :=
 (.seq (.ops [bX 3 4 1,mC 4 (.bool false)])
 (.seq (.seq (.ops [fA 5 1 3,l1 6 5])
 (.block 0 (.seq (.ops [bN 8 .eql (.t 6) (cI 0),mT 7 8])
 (.cond (.t 7)
 (.seq (.seq (.ops [fA 9 2 3,l1 10 9,lN 11 10,bN 12 .gtr (.t 11) (cI 1),mT 13 12,gF 14 13 false 3 3,g1 15 13 false 14,gN 16 13 false 15,
 gB 17 13 false .eql (.t 16) (cI 0),gM 18 13 false 17,gF 19 18 true 2 3,g1 20 18 true 19,gN 21 18 true 20,gB 22 18 true .eql (.t 21) (cI 0),
 og 23 13 false (.pick (.t 18) (.t 22) (cB false)),pO 24 13 23])
 (.cond (.t 24)
 (.seq (.ops [mC 4 (.bool false)])
 .ret)
 .skip))
 (.seq (.ops [mT 25 0,fA 26 3 3,l1 27 26,fA 28 2 3,l1 29 28,lN 30 29,bN 31 .sub (cI 1) (.t 30),cL 32 F.mean_runner_frames [(.t 25),(.t 27),(.t 31)],mT 4 32])
 .ret))
 (.seq (.ops [bN 34 .eql (.t 6) (cI 1),mT 33 34])
 (.cond (.t 33)
 (.seq (.ops [fA 35 2 3,l1 36 35,lN 37 36,bN 38 .eql (.t 37) (cI 1),mT 39 38,gF 40 39 true 3 3,g1 41 39 true 40,gN 42 39 true 41,gB 43 39 true .eql (.t 42) (cI 0),
 pA 44 39 43,mT 4 44])
 .ret)
 (.seq (.seq (.ops [bN 46 .eql (.t 6) (cI 2),mT 45 46])
 (.cond (.t 45)
 .skip
 (.seq (.ops [bN 47 .eql (.t 6) (cI 3),mT 45 47])
 (.cond (.t 45)
 .skip
 (.ops [bN 48 .eql (.t 6) (cI 4),mT 45 48])))))
 (.cond (.t 45)
 (.seq (.ops [fA 49 2 3,l1 50 49,lN 51 50,bN 52 .eql (.t 51) (cI 0),mT 53 52,gF 54 53 true 3 3,g1 55 53 true 54,gN 56 53 true 55,gB 57 53 true .eql (.t 56) (cI 0),
 pA 58 53 57,mT 4 58])
 .ret)
 .skip))))))))
 (.seq (.ops [mC 4 (.bool false)])
 .ret))) }
def C.mean_all_int : LFunc := { np := 2,res := [.tmp 4],keep := false,body :=
 (.seq (.ops [bX 3 1 1,mC 4 (.bool false)])
 (.seq (.ops [mT 5 0,o 6 (.mkfn F.mean_all_int_c1 [] [(.t 3)]),cL 7 F.slices_ContainsFunc_s_int_int [(.t 5),(.t 6)],nT 8 7,mT 4 8])
 .ret)) }
def C.slices_Collect_int : LFunc := { np := 1,res := [.tmp 2],keep := false,body :=
 (.seq (.ops [mC 2 (.cl [])])
 (.seq (.ops [mT 3 0,o 4 (.icall (.f F.slices_AppendSeq_s_int_int) [(.c (.cl [])),(.t 3)]),mT 2 4])
 .ret)) }
def C.mean_numbers : LFunc := { np := 1,res := [.tmp 2],keep := false,body :=
 (.seq (.ops [bX 1 1 0,mC 2 .nilf])
 (.seq (.ops [o 3 (.mkfn F.mean_numbers_c1 [] [(.t 1)]),mT 2 3])
 .ret)) }
def C.mean_runner_tasks_c1 : LFunc := { np := 3,res := [.tmp 4],keep := false,body :=
 (.seq (.ops [mC 4 (.bool false)])
 (.seq (.ops [l1 5 1,mT 6 0,o 7 (.mget .num (.bool false) false (.t 5) (.t 6)),mT 8 7,g1 9 8 false 2,og 10 8 false (.nilck (.t 9)),gF 11 8 false 4 10,
 gF 12 8 false 0 11,g1 13 8 false 12,gM 14 8 false 0,og 15 8 false (.ia 4 (.t 13) (.t 14)),gF 16 8 false 0 15,g1 17 8 false 16,gB 18 8 false .neq (.t 17) (cI 6),
 pO 19 8 18,mT 4 19])
 .ret)) }
def C.slices_ContainsFunc_s_api_MeanOut_api_MeanOut : LFunc := { np := 2,res := [.tmp 4],keep := false,body :=
 (.seq (.ops [mC 4 (.bool false)])
 (.seq (.ops [mT 5 0,mT 6 1,cL 7 F.slices_IndexFunc_s_api_MeanOut_api_MeanOut [(.t 5),(.t 6)],bN 8 .geq (.t 7) (cI 0),mT 4 8])
 .ret)) }
def C.mean_all_api_MeanOut_c1 : LFunc := { np := 2,res := [.tmp 3],keep := false,body :=
 (.seq (.ops [bX 2 2 0,mC 3 (.bool false)])
 (.seq (.ops [l1 4 1,lT 5 2 2,o 6 (.call (.t 4) [(.t 5)]),nT 7 6,mT 3 7])
 .ret)) }
def C.mean_must : LFunc := { np := 2,res := [],keep := false,body :=
 (.seq (.ops [mT 4 0,nT 5 4])
 (.cond (.t 5)
 (.opsP [mT 6 1,o 7 (.build [(.int .i64 0)] [(0,1,(.t 6))]),o 8 (.iface 249 (.t 7)),on (.panic (.t 8))])
 .skip)) }
def C.slices_Clip_s_api_MeanFrame_api_MeanFrame : LFunc := { np := 1,res := [.tmp 2],keep := true,body :=
 (.seq (.ops [mC 2 (.cl [])])
 (.seq (.ops [mT 3 0,mT 4 0,lN 5 4,mT 6 0,lN 7 6,o 8 (.slice false 3 (.t 3) none (some (.t 5)) (some (.t 7))),mT 2 8])
 .ret)) }
def C.mean_turner_constant : LFunc := { np := 1,res := [.tmp 2],keep := false,body :=
 (.seq (.ops [mC 2 .nili])
 (.seq (.seq (.ops [mT 3 0,nK 4 3,fA 5 6 4,fA 6 0 5,l1 7 6])
 (.block 0 (.seq (.ops [bN 9 .eql (.t 7) (cI 1),mT 8 9])
 (.cond (.t 8)
 (.seq (.ops [mT 10 0,mT 11 0,nK 12 11,fA 13 6 12,fA 14 1 13,l1 15 14,cL 16 F.mean_number [(.t 15)],o 17 (.icall (.f F.mean_turner_comes) [(.t 10),(.t 16)]),mT 2 17])
 .ret)
 (.seq (.ops [bN 19 .eql (.t 7) (cI 2),mT 18 19])
 (.cond (.t 18)
 (.seq (.ops [mT 20 0,mT 21 0,nK 22 21,fA 23 6 22,fA 24 1 23,l1 25 24,bN 26 .eql (.t 25) (cI 1),cL 27 F.mean_truth [(.t 26)],
 o 28 (.icall (.f F.mean_turner_comes) [(.t 20),(.t 27)]),mT 2 28])
 .ret)
 .skip))))))
 (.seq (.ops [mT 29 0,cL 30 F.mean_unit [],o 31 (.icall (.f F.mean_turner_comes) [(.t 29),(.t 30)]),mT 2 31])
 .ret))) }
def C.mean_turner_name : LFunc := { np := 1,res := [.tmp 2],keep := false,body :=
 (.seq (.ops [mC 2 .nili])
 (.seq (.seq (.ops [mT 3 0,nK 4 3,fA 5 6 4,fA 6 1 5,l1 7 6,bN 8 .lss (.t 7) (cI 0)])
 (.cond (.t 8)
 (.seq (.ops [mT 9 0,mT 10 0,nK 11 10,fA 12 6 11,fA 13 1 12,l1 14 13,bN 15 .sub (cI (-1)) (.t 14),
 o 16 (.build [(.int .i64 0),(.int .i64 0)] [(0,1,(cI 4)),(1,1,(.t 15))]),o 17 (.icall (.f F.mean_turner_comes) [(.t 9),(.t 16)]),mT 2 17])
 .ret)
 .skip))
 (.seq (.drawP [mT 18 0,nK 19 18,fA 20 6 19,fA 21 1 20,l1 22 21,mT 23 0,nK 24 23,fA 25 3 24,fA 26 1 25,l1 27 26,lN 28 27,bN 29 .lss (.t 22) (.t 28),
 cL 30 F.mean_must [(.t 29),(cI 2)]]
 [[],[0],[1,0],[2,1,0],[3,2,1,0],[],[5],[6,5],[7,6,5],[8,7,6,5],[9,8,7,6,5],[4,10,3,2,1,0,9,8,7,6,5],[11,4,10,3,2,1,0,9,8,7,6,5]]
 [])
 (.seq (.draw [mT 31 0,mT 32 0,nK 33 32,fA 34 3 33,fA 35 1 34,l1 36 35,mT 37 0,nK 38 37,fA 39 6 38,fA 40 1 39,l1 41 40,iA 42 2 36 41,lT 43 2 42,
 o 44 (.icall (.f F.mean_turner_comes) [(.t 31),(.t 43)]),mT 2 44]
 [])
 .ret)))) }
def C.mean_turner_let : LFunc := { np := 1,res := [.tmp 2],keep := false,body :=
 (.seq (.ops [mC 2 .nili])
 (.seq (.drawP [mT 3 0,mT 4 0,nK 5 4,fA 6 3 5,fA 7 1 6,l1 8 7,mT 9 0,nK 10 9,fA 11 3 10,fA 12 2 11,l1 13 12,o 14 (.ia 2 (.t 13) (cI 0)),lT 15 2 14,
 o 16 (.bslice 1 2 [(.int .i64 0),(.int .i64 0)] [(0,(.t 15))]),cL 17 F.mean_with [(.t 8),(.t 16)],o 18 (.icall (.f F.mean_turner_goes) [(.t 3),(cI 1),(.t 17)]),
 mT 2 18]
 [[],[],[1],[2,1],[3,2,1],[4,3,2,1],[],[6],[7,6],[8,7,6],[9,8,7,6],[10,9,8,7,6],[11,10,9,8,7,6],[12,11,10,9,8,7,6],[5,13,4,3,2,1,12,11,10,9,8,7,6],[0,14,5,13,4,3,2,1,12,11,10,9,8,7,6],[15,0,1,2,3,4,5,6,7,8,9,10,11,12,13,14]]
 [(5,13)])
 .ret)) }
def C.mean_turner_sum : LFunc := { np := 1,res := [.tmp 2],keep := false,body :=
 (.seq (.ops [mC 2 .nili])
 (.seq (.opsP [mT 7 0,o 8 (.icall (.f F.mean_turner_ints) [(.t 7)]),mT 6 8,o 9 (.ext 0 (.t 6)),o 10 (.ext 1 (.t 6)),mT 3 9,mT 4 10])
 (.seq (.ops [mT 11 3,mT 12 4,bN 13 .add (.t 11) (.t 12),mT 5 13])
 (.seq (.seq (.ops [mT 14 0,nK 15 14,fA 16 6 15,fA 17 0 16,l1 18 17])
 (.block 0 (.seq (.ops [bN 20 .eql (.t 18) (cI 10),mT 19 20])
 (.cond (.t 19)
 (.ops [mT 21 3,mT 22 4,bN 23 .sub (.t 21) (.t 22),mT 5 23])
 (.seq (.ops [bN 25 .eql (.t 18) (cI 11),mT 24 25])
 (.cond (.t 24)
 (.ops [mT 26 3,mT 27 4,bN 28 .mul (.t 26) (.t 27),mT 5 28])
 .skip))))))
 (.seq (.opsP [mT 29 5,cL 30 F.mean_integer [(.t 29)],cL 31 F.mean_must [(.t 30),(cI 4)]])
 (.seq (.ops [mT 32 0,mT 33 5,cL 34 F.mean_number [(.t 33)],o 35 (.icall (.f F.mean_turner_comes) [(.t 32),(.t 34)]),mT 2 35])
 .ret)))))) }
def C.mean_turner_cell : LFunc := { np := 1,res := [.tmp 2],keep := false,body :=
 (.seq (.ops [mC 2 .nili])
 (.seq (.ops [mT 5 0,nK 6 5,fA 7 3 6,fA 8 2 7,l1 9 8,o 10 (.ia 2 (.t 9) (cI 0)),lT 11 2 10,o 3 (.alloc [(.int .i64 0),(.int .i64 0)]),sT 2 3 11])
 (.seq (.opsP [mT 12 0,lT 13 2 3,o 14 (.bslice 1 2 [(.int .i64 0),(.int .i64 0)] [(0,(.t 13))]),
 o 15 (.build [(.int .i64 0),(.int .i64 0),(.cl []),(.cl [])] [(0,1,(cI 3)),(2,1,(.t 14))]),o 16 (.icall (.f F.mean_turner_create) [(.t 12),(.t 15)]),
 o 4 (.alloc [(.int .i64 0),(.int .i64 0)]),sT 2 4 16])
 (.seq (.ops [mT 17 0,lT 18 2 4,lT 19 2 3,o 20 (.icall (.f F.mean_turner_acts) [(.t 17),(.t 18),(.t 19)]),mT 2 20])
 .ret)))) }
def C.mean_turner_get : LFunc := { np := 1,res := [.tmp 2],keep := false,body :=
 (.seq (.ops [mC 2 .nili])
 (.seq (.opsP [mT 4 0,mT 5 0,nK 6 5,fA 7 3 6,fA 8 2 7,l1 9 8,o 10 (.ia 2 (.t 9) (cI 0)),lT 11 2 10,o 12 (.icall (.f F.mean_turner_want) [(.t 4),(.t 11),(cI 3)]),
 o 13 (.fld false 2 1 (.t 12)),o 14 (.ia 2 (.t 13) (cI 0)),lT 15 2 14,o 3 (.alloc [(.int .i64 0),(.int .i64 0)]),sT 2 3 15])
 (.seq (.ops [mT 16 0,lT 17 2 3,lT 18 2 3,o 19 (.icall (.f F.mean_turner_acts) [(.t 16),(.t 17),(.t 18)]),mT 2 19])
 .ret))) }
def C.mean_turner_put : LFunc := { np := 1,res := [.tmp 2],keep := false,body :=
 (.seq (.ops [mC 2 .nili])
 (.seq (.opsP [mT 3 0,mT 4 0,nK 5 4,fA 6 3 5,fA 7 2 6,l1 8 7,o 9 (.ia 2 (.t 8) (cI 0)),lT 10 2 9,o 11 (.icall (.f F.mean_turner_want) [(.t 3),(.t 10),(cI 3)])])
 (.seq (.draw [mT 12 0,mT 13 0,nK 14 13,fA 15 3 14,fA 16 2 15,l1 17 16,o 18 (.ia 2 (.t 17) (cI 0)),fA 19 1 18,l1 20 19,mT 21 0,nK 22 21,fA 23 3 22,fA 24 2 23,l1 25 24,
 o 26 (.ia 2 (.t 25) (cI 1)),lT 27 2 26,o 28 (.bslice 1 2 [(.int .i64 0),(.int .i64 0)] [(0,(.t 27))]),
 o 29 (.build [(.int .i64 0),(.int .i64 0),(.cl []),(.cl [])] [(0,1,(cI 3)),(2,1,(.t 28))]),o 30 (.icall (.f F.mean_turner_change) [(.t 12),(.t 20),(.t 29)])]
 [(5,16),(6,16),(8,16)])
 (.seq (.draw [mT 31 0,cL 32 F.mean_unit [],mT 33 0,nK 34 33,fA 35 3 34,fA 36 2 35,l1 37 36,o 38 (.ia 2 (.t 37) (cI 1)),lT 39 2 38,
 o 40 (.icall (.f F.mean_turner_acts) [(.t 31),(.t 32),(.t 39)]),mT 2 40]
 [(1,6),(1,7),(1,8)])
 .ret)))) }
def C.mean_turner_out : LFunc := { np := 1,res := [.tmp 2],keep := false,nrm := [[0]],body :=
 (.seq (.ops [mC 2 .nili])
 (.seq (.ops [mT 4 0,nK 5 4,fA 6 3 5,fA 7 2 6,l1 8 7,o 9 (.ia 2 (.t 8) (cI 0)),lT 10 2 9,o 3 (.alloc [(.int .i64 0),(.int .i64 0)]),sT 2 3 10])
 (.seq (.opsP [fA 11 0 3,l1 12 11,bN 13 .eql (.t 12) (cI 1),cL 14 F.mean_must [(.t 13),(cI 2)]])
 (.seq (.opsP [mT 15 0,nK 16 15,fA 17 0 16,l1 18 17,nK 19 18,fA 20 4 19,fA 21 2 20,l1 22 21,lN 23 22,bN 24 .lss (.t 23) (cI 100),cL 25 F.mean_must [(.t 24),(cI 4)]])
 (.seq (.draw [mT 26 0,nK 27 26,fA 28 0 27,l1 29 28,mT 30 0,nK 31 30,fA 32 0 31,l1 33 32,nK 34 33,fA 35 4 34,fA 36 2 35,l1 37 36,
 cL 38 F.slices_Clip_s_api_MeanOut_api_MeanOut [(.t 37)],mT 39 0,nK 40 39,fA 41 6 40,fA 42 1 41,l1 43 42,fA 44 1 3,l1 45 44,
 o 46 (.build [(.int .i64 0),(.int .i64 0)] [(0,1,(.t 43)),(1,1,(.t 45))]),o 47 (.bslice 1 2 [(.int .i64 0),(.int .i64 0)] [(0,(.t 46))]),
 o 48 (.append 2 (.t 38) (.t 47)),nK 49 29,fA 50 4 49,fA 51 2 50,sT 1 51 48]
 [(3,12),(12,17),(12,19),(3,21),(7,21),(11,21),(12,21),(3,22)])
 (.seq (.draw [mT 52 0,cL 53 F.mean_unit [],lT 54 2 3,o 55 (.icall (.f F.mean_turner_acts) [(.t 52),(.t 53),(.t 54)]),mT 2 55]
 [(1,2)])
 .ret)))))) }
def C.mean_turner_input : LFunc := { np := 1,res := [.tmp 2],keep := false,body :=
 (.seq (.ops [mC 2 .nili])
 (.seq (.seq (.ops [mT 4 0,nK 5 4,fA 6 0 5,l1 7 6,nK 8 7,fA 9 4 8,fA 10 3 9,l1 11 10,lN 12 11,bN 13 .eql (.t 12) (cI 0)])
 (.cond (.t 13)
 (.seq (.ops [o 14 (.build [] []),o 15 (.iface 244 (.t 14)),mT 2 15])
 .ret)
 .skip))
 (.seq (.opsP [mT 16 0,nK 17 16,fA 18 0 17,l1 19 18,nK 20 19,fA 21 4 20,fA 22 4 21,l1 23 22,bN 24 .lss (.t 23) (cI 1000000000),cL 25 F.mean_must [(.t 24),(cI 4)]])
 (.seq (.ops [mT 26 0,nK 27 26,fA 28 0 27,l1 29 28,nK 30 29,fA 31 4 30,fA 32 3 31,l1 33 32,o 34 (.ia 1 (.t 33) (cI 0)),l1 35 34,cL 36 F.mean_number [(.t 35)],
 o 3 (.alloc [(.int .i64 0),(.int .i64 0)]),sT 2 3 36])
 (.seq (.draw [mT 37 0,nK 38 37,fA 39 0 38,l1 40 39,mT 41 0,nK 42 41,fA 43 0 42,l1 44 43,nK 45 44,fA 46 4 45,fA 47 3 46,l1 48 47,
 o 49 (.slice false 1 (.t 48) (some (cI 1)) none none),nK 50 40,fA 51 4 50,fA 52 3 51,sT 1 52 49]
 [])
 (.seq (.ops [mT 53 0,nK 54 53,fA 55 0 54,l1 56 55,nK 57 56,fA 58 4 57,fA 59 4 58,l1 60 59,bN 61 .add (.t 60) (cI 1),nK 62 56,fA 63 4 62,fA 64 4 63,sT 1 64 61])
 (.seq (.ops [mT 65 0,lT 66 2 3,lT 67 2 3,o 68 (.icall (.f F.mean_turner_acts) [(.t 65),(.t 66),(.t 67)]),mT 2 68])
 .ret))))))) }
def C.mean_runner_next : LFunc := { np := 2,res := [.tmp 4],keep := false,body :=
 (.seq (.ops [mC 4 (.int .i64 0)])
 (.seq (.ops [mT 6 0,nK 7 6,lT 8 9 7,o 5 (.alloc ([(.cl []),(.cl []),(.int .i64 0),(.cl []),(.cl []),(.cl []),(.cl []),(.cl []),(.int .i64 0)])),sT 9 5 8])
 (.seq (.ops [mT 9 1,o 10 (.icall (.f F.mean_runner_step) [(.t 5),(.t 9)]),cL 11 F.mean_rank [(.t 10)],mT 4 11])
 .ret))) }
def C.R02_skipped : LFunc := { np := 2,res := [.tmp 4],keep := false,body :=
 (.seq (.ops [mC 4 (.int .i64 0)])
 (.seq (.block 0 (.loop (.seq (.seq (.ops [mT 5 1,mT 6 0,o 7 (.len .str (.t 6)),bN 8 .lss (.t 5) (.t 7)])
 (.cond (.t 8)
 .skip
 (.exit 0)))
 (.block 1 (.seq (.ops [mT 9 0,mT 10 1,o 11 (.ixs (.t 9) (.t 10)),bN 12 .eql (.t 11) (.c (.int .u8 32)),mT 13 12,gM 14 13 false 0,gM 15 13 false 1,
 og 16 13 false (.ixs (.t 14) (.t 15)),gB 17 13 false .eql (.t 16) (.c (.int .u8 9)),pO 18 13 17,mT 19 18,gM 20 19 false 0,gM 21 19 false 1,
 og 22 19 false (.ixs (.t 20) (.t 21)),gB 23 19 false .eql (.t 22) (.c (.int .u8 10)),pO 24 19 23])
 (.cond (.t 24)
 (.ops [mT 25 1,bN 26 .add (.t 25) (cI 1),mT 1 26])
 (.seq (.ops [mT 27 0,o 28 (.len .str (.t 27)),mT 29 1,bN 30 .sub (.t 28) (.t 29),bN 31 .geq (.t 30) (cI 2),mT 32 31,gM 33 32 true 0,gM 34 32 true 1,gM 35 32 true 1,
 gB 36 32 true .add (.t 35) (cI 2),og 37 32 true (.slice true 1 (.t 33) (some (.t 34)) (some (.t 36)) none),
 og 38 32 true (.bin .eql .str (.t 37) (.c (.str ⟨#[47,47]⟩))),pA 39 32 38])
 (.cond (.t 39)
 (.block 2 (.loop (.seq (.seq (.ops [mT 40 1,mT 41 0,o 42 (.len .str (.t 41)),bN 43 .lss (.t 40) (.t 42),mT 44 43,gM 45 44 true 0,gM 46 44 true 1,
 og 47 44 true (.ixs (.t 45) (.t 46)),gB 48 44 true .neq (.t 47) (.c (.int .u8 10)),pA 49 44 48])
 (.cond (.t 49)
 .skip
 (.exit 2)))
 (.block 3 (.ops [mT 50 1,bN 51 .add (.t 50) (cI 1),mT 1 51])))))
 (.seq (.ops [mT 52 1,mT 4 52])
 .ret)))))))))
 (.seq (.ops [mT 53 1,mT 4 53])
 .ret))) }
def C.R02_next : LFunc := { np := 2,res := [.cell 4 true 4],keep := false,body :=
 (.seq (.ops [o 4 (.alloc [(.int .i64 0),(.str ⟨#[]⟩),(.int .i64 0),(.int .i64 0)])])
 (.seq (.ops [mT 7 1,o 8 (.build [(.int .i64 0),(.str ⟨#[]⟩),(.int .i64 0),(.int .i64 0)] [(3,1,(.t 7))]),
 o 5 (.alloc [(.int .i64 0),(.str ⟨#[]⟩),(.int .i64 0),(.int .i64 0)]),sT 4 5 8])
 (.seq (.seq (.ops [mT 9 0,mT 10 1,o 11 (.ixs (.t 9) (.t 10)),cL 12 F.R02_letter [(.t 11)]])
 (.cond (.t 12)
 (.seq (.ops [mT 13 0,mT 14 1,mT 15 1,mT 16 0,mT 17 1,cL 18 F.R02_run [(.t 16),(.t 17),(cB false)],bN 19 .add (.t 15) (.t 18),
 o 20 (.slice true 1 (.t 13) (some (.t 14)) (some (.t 19)) none),fA 21 1 5,sT 1 21 20])
 (.seq (.seq (.ops [fA 22 1 5,l1 23 22,cL 24 F.R01_Key [(.t 23)]])
 (.cond (.t 24)
 (.ops [fA 25 0 5,on (.store 1 (.t 25) (cI 3))])
 (.seq (.ops [fA 26 1 5,l1 27 26,o 28 (.len .str (.t 27)),bN 29 .leq (.t 28) (cI 8)])
 (.cond (.t 29)
 (.ops [fA 30 0 5,on (.store 1 (.t 30) (cI 1))])
 .skip))))
 (.seq (.ops [lT 31 4 5,sT 4 4 31])
 .ret)))
 .skip))
 (.seq (.seq (.ops [mT 32 0,mT 33 1,o 34 (.ixs (.t 32) (.t 33)),cL 35 F.R02_great [(.t 34)]])
 (.cond (.t 35)
 (.seq (.ops [mT 36 0,mT 37 1,mT 38 1,bN 39 .add (.t 38) (cI 1),mT 40 0,mT 41 1,bN 42 .add (.t 41) (cI 1),cL 43 F.R02_run [(.t 40),(.t 42),(cB false)],
 bN 44 .add (.t 39) (.t 43),o 45 (.slice true 1 (.t 36) (some (.t 37)) (some (.t 44)) none),fA 46 1 5,sT 1 46 45])
 (.seq (.seq (.ops [fA 47 1 5,l1 48 47,o 49 (.len .str (.t 48)),bN 50 .leq (.t 49) (cI 8)])
 (.cond (.t 50)
 (.ops [fA 51 0 5,on (.store 1 (.t 51) (cI 2))])
 .skip))
 (.seq (.ops [lT 52 4 5,sT 4 4 52])
 .ret)))
 .skip))
 (.seq (.seq (.ops [mT 53 0,mT 54 1,o 55 (.ixs (.t 53) (.t 54)),cL 56 F.R02_digit [(.t 55)],mT 57 56,gM 58 57 false 0,gM 59 57 false 1,
 og 60 57 false (.ixs (.t 58) (.t 59)),gB 61 57 false .eql (.t 60) (.c (.int .u8 126)),pO 62 57 61])
 (.cond (.t 62)
 (.seq (.ops [mT 63 0,mT 64 1,cL 65 F.R02_integer [(.t 63),(.t 64)],mT 6 65])
 (.seq (.seq (.ops [mT 66 6,bN 67 .gtr (.t 66) (cI 0)])
 (.cond (.t 67)
 (.draw [mT 68 0,mT 69 1,mT 70 1,mT 71 6,bN 72 .add (.t 70) (.t 71),o 73 (.slice true 1 (.t 68) (some (.t 69)) (some (.t 72)) none),mT 74 0,mT 75 1,mT 76 1,mT 77 6,
 bN 78 .add (.t 76) (.t 77),o 79 (.slice true 1 (.t 74) (some (.t 75)) (some (.t 78)) none),cL 80 F.R02_number [(.t 79)],fA 81 0 5,on (.store 1 (.t 81) (cI 4)),
 fA 82 1 5,sT 1 82 73,fA 83 2 5,sT 1 83 80]
 [(5,12),(5,14)])
 .skip))
 (.seq (.ops [lT 84 4 5,sT 4 4 84])
 .ret)))
 .skip))
 (.seq (.ops [mT 85 0,mT 86 1,cL 87 F.R02_sign [(.t 85),(.t 86)],fA 88 1 5,sT 1 88 87])
 (.seq (.seq (.ops [fA 89 1 5,l1 90 89,o 91 (.bin .neq .str (.t 90) (.c (.str ⟨#[]⟩)))])
 (.cond (.t 91)
 (.ops [fA 92 0 5,on (.store 1 (.t 92) (cI 5))])
 .skip))
 (.seq (.ops [lT 93 4 5,sT 4 4 93])
 .ret)))))))) }
def C.R02_reader_simple : LFunc := { np := 1,res := [.cell 2 true 4],keep := false,body :=
 (.seq (.ops [o 2 (.alloc [(.int .i64 0),(.int .i64 0),(.str ⟨#[]⟩),(.cl [])])])
 (.seq (.block 0 (.seq (.ops [mT 5 0,o 6 (.icall (.f F.R02_reader_has) [(.t 5),(.c (.str ⟨#[105,110,116]⟩))]),mT 4 6])
 (.cond (.t 4)
 (.seq (.ops [o 7 (.build [(.int .i64 0),(.int .i64 0),(.str ⟨#[]⟩),(.cl [])] [(0,1,(cI 1))]),sT 4 2 7])
 .ret)
 (.seq (.ops [mT 9 0,o 10 (.icall (.f F.R02_reader_has) [(.t 9),(.c (.str ⟨#[98,111,111,108]⟩))]),mT 8 10])
 (.cond (.t 8)
 (.seq (.ops [o 11 (.build [(.int .i64 0),(.int .i64 0),(.str ⟨#[]⟩),(.cl [])] [(0,1,(cI 2))]),sT 4 2 11])
 .ret)
 (.seq (.ops [mT 13 0,o 14 (.icall (.f F.R02_reader_has) [(.t 13),(.c (.str ⟨#[117,110,105,116]⟩))]),mT 12 14])
 (.cond (.t 12)
 (.seq (.ops [o 15 (.build [(.int .i64 0),(.int .i64 0),(.str ⟨#[]⟩),(.cl [])] [(0,1,(cI 3))]),sT 4 2 15])
 .ret)
 (.seq (.ops [mT 17 0,o 18 (.icall (.f F.R02_reader_has) [(.t 17),(.c (.str ⟨#[99,101,108,108]⟩))]),mT 16 18])
 (.cond (.t 16)
 (.seq (.ops [mT 19 0,o 20 (.icall (.f F.R02_reader_of) [(.t 19),(cI 5)]),sT 4 2 20])
 .ret)
 (.seq (.ops [mT 22 0,o 23 (.icall (.f F.R02_reader_has) [(.t 22),(.c (.str ⟨#[99,104,97,110]⟩))]),mT 21 23])
 (.cond (.t 21)
 (.seq (.ops [mT 24 0,o 25 (.icall (.f F.R02_reader_of) [(.t 24),(cI 6)]),sT 4 2 25])
 .ret)
 (.seq (.ops [mT 27 0,o 28 (.icall (.f F.R02_reader_has) [(.t 27),(.c (.str ⟨#[116,97,115,107]⟩))]),mT 26 28])
 (.cond (.t 26)
 (.seq (.ops [mT 29 0,o 30 (.icall (.f F.R02_reader_of) [(.t 29),(cI 7)]),sT 4 2 30])
 .ret)
 (.seq (.ops [mT 32 0,o 33 (.icall (.f F.R02_reader_has) [(.t 32),(.c (.str ⟨#[63]⟩))]),mT 31 33])
 (.cond (.t 31)
 (.seq (.ops [mT 34 0,o 35 (.icall (.f F.R02_reader_take) [(.t 34),(cI 4)]),o 36 (.fld false 2 1 (.t 35)),
 o 37 (.build [(.int .i64 0),(.int .i64 0),(.str ⟨#[]⟩),(.cl [])] [(0,1,(cI 9)),(1,1,(.t 36))]),sT 4 2 37])
 .ret)
 (.seq (.ops [mT 39 0,o 40 (.icall (.f F.R02_reader_has) [(.t 39),(.c (.str ⟨#[40]⟩))]),mT 38 40])
 (.cond (.t 38)
 (.seq (.ops [mT 41 0,o 42 (.icall (.f F.R02_reader_kind) [(.t 41)]),o 3 (.alloc [(.int .i64 0),(.int .i64 0),(.str ⟨#[]⟩),(.cl [])]),sT 4 3 42])
 (.seq (.ops [mT 43 0,o 44 (.icall (.f F.R02_reader_want) [(.t 43),(.c (.str ⟨#[41]⟩))])])
 (.seq (.ops [lT 45 4 3,sT 4 2 45])
 .ret)))
 .skip)))))))))))))))))
 (.seq (.ops [mT 46 0,o 47 (.icall (.f F.R02_reader_take) [(.t 46),(cI 2)]),o 48 (.fld false 1 1 (.t 47)),
 o 49 (.build [(.int .i64 0),(.int .i64 0),(.str ⟨#[]⟩),(.cl [])] [(0,1,(cI 8)),(2,1,(.t 48))]),sT 4 2 49])
 .ret))) }
def C.R02_reader_sum : LFunc := { np := 1,res := [.cell 2 true 5],keep := false,body :=
 (.seq (.ops [o 2 (.alloc [(.int .i64 0),(.int .i64 0),(.str ⟨#[]⟩),(.cl []),(.cl [])])])
 (.seq (.ops [mT 6 0,o 7 (.icall (.f F.R02_reader_product) [(.t 6)]),o 3 (.alloc [(.int .i64 0),(.int .i64 0),(.str ⟨#[]⟩),(.cl []),(.cl [])]),sT 5 3 7])
 (.seq (.block 0 (.loop (.seq (.seq (.ops [mT 8 0,nK 9 8,fA 10 2 9,l1 11 10,nT 12 11,mT 13 12,gM 14 13 true 0,
 og 15 13 true (.icall (.f F.R02_reader_sees) [(.t 14),(.c (.str ⟨#[43]⟩))]),gM 16 13 true 15,gM 17 16 false 0,
 og 18 16 false (.icall (.f F.R02_reader_sees) [(.t 17),(.c (.str ⟨#[45]⟩))]),og 19 13 true (.pick (.t 16) (cB true) (.t 18)),pA 20 13 19])
 (.cond (.t 20)
 .skip
 (.exit 0)))
 (.block 1 (.seq (.ops [mC 4 (.int .i64 10)])
 (.seq (.seq (.ops [mT 21 0,o 22 (.icall (.f F.R02_reader_sees) [(.t 21),(.c (.str ⟨#[43]⟩))])])
 (.cond (.t 22)
 (.ops [mC 4 (.int .i64 9)])
 .skip))
 (.seq (.ops [mT 23 0,nK 24 23,fA 25 1 24,l1 26 25,bN 27 .add (.t 26) (cI 1),nK 28 23,fA 29 1 28,sT 1 29 27])
 (.seq (.ops [mT 30 0,o 31 (.icall (.f F.R02_reader_product) [(.t 30)]),o 5 (.alloc [(.int .i64 0),(.int .i64 0),(.str ⟨#[]⟩),(.cl []),(.cl [])]),sT 5 5 31])
 (.ops [mT 32 4,lT 33 5 3,lT 34 5 5,cL 35 F.R02_two [(.t 32),(.t 33),(.t 34)],sT 5 3 35])))))))))
 (.seq (.ops [lT 36 5 3,sT 5 2 36])
 .ret)))) }
def C.R02_two : LFunc := { np := 3,res := [.cell 6 true 5],keep := false,body :=
 (.seq (.ops [bX 4 5 1,bX 5 5 2,o 6 (.alloc [(.int .i64 0),(.int .i64 0),(.str ⟨#[]⟩),(.cl []),(.cl [])])])
 (.seq (.ops [mT 7 0,lT 8 5 4,lT 9 5 5,o 10 (.bslice 2 5 [(.int .i64 0),(.int .i64 0),(.str ⟨#[]⟩),(.cl []),(.cl [])] [(0,(.t 8)),(1,(.t 9))]),
 o 11 (.build [(.int .i64 0),(.int .i64 0),(.str ⟨#[]⟩),(.cl []),(.cl [])] [(0,1,(.t 7)),(3,1,(.t 10))]),sT 5 6 11])
 .ret)) }
def C.R01_keywords : LFunc := { np := 0,res := [.tmp 0],keep := false,body :=
 (.seq (.ops [mC 0 (.cl [])])
 (.seq (.ops [o 1 (.bslice 28 1 [(.str ⟨#[]⟩)] [(0,(.c (.str ⟨#[98,111,111,108]⟩))),(1,(.c (.str ⟨#[99,101,108,108]⟩))),(2,(.c (.str ⟨#[99,104,97,110]⟩))),(3,(.c (.str ⟨#[101,108,115,101]⟩))),(4,(.c (.str ⟨#[102,97,108,115,101]⟩))),(5,(.c (.str ⟨#[102,117,110]⟩))),(6,(.c (.str ⟨#[103,101,116]⟩))),(7,(.c (.str ⟨#[105,102]⟩))),(8,(.c (.str ⟨#[105,110]⟩))),(9,(.c (.str ⟨#[105,110,112,117,116]⟩))),(10,(.c (.str ⟨#[105,110,116]⟩))),(11,(.c (.str ⟨#[106,111,105,110]⟩))),(12,(.c (.str ⟨#[108,101,116]⟩))),(13,(.c (.str ⟨#[109,97,116,99,104]⟩))),(14,(.c (.str ⟨#[109,111,100,117,108,101]⟩))),(15,(.c (.str ⟨#[111,117,116]⟩))),(16,(.c (.str ⟨#[112,97,117,115,101]⟩))),(17,(.c (.str ⟨#[112,117,116]⟩))),(18,(.c (.str ⟨#[114,101,115,101,116]⟩))),(19,(.c (.str ⟨#[115,101,110,100]⟩))),(20,(.c (.str ⟨#[115,104,105,102,116]⟩))),(21,(.c (.str ⟨#[115,112,97,119,110]⟩))),(22,(.c (.str ⟨#[116,97,107,101]⟩))),(23,(.c (.str ⟨#[116,97,115,107]⟩))),(24,(.c (.str ⟨#[116,104,101,110]⟩))),(25,(.c (.str ⟨#[116,114,117,101]⟩))),(26,(.c (.str ⟨#[116,121,112,101]⟩))),(27,(.c (.str ⟨#[117,110,105,116]⟩)))]),
 mT 0 1])
 .ret)) }
def C.R01_node : LFunc := { np := 1,res := [.tmp 2],keep := false,body :=
 (.seq (.ops [bX 1 5 0,mC 2 (.bool false)])
 (.seq (.ops [fA 4 3 1,l1 5 4,lN 6 5,mT 3 6])
 (.seq (.seq (.ops [fA 7 0 1,l1 8 7])
 (.block 0 (.seq (.ops [bN 10 .eql (.t 8) (cI 1),mT 9 10])
 (.cond (.t 9)
 (.seq (.ops [mT 11 3,bN 12 .eql (.t 11) (cI 0),mT 13 12,gT 14 13 true 5 1,gL 15 13 true F.R01_spare [(.t 14),(cB true),(cB false),(cB false)],pA 16 13 15,mT 17 16,
 gF 18 17 true 1 1,g1 19 17 true 18,gL 20 17 true F.R01_in [(.t 19),(cI (-1000000000)),(cI 1000000000)],pA 21 17 20,mT 2 21])
 .ret)
 (.seq (.ops [bN 23 .eql (.t 8) (cI 2),mT 22 23])
 (.cond (.t 22)
 (.seq (.ops [mT 24 3,bN 25 .eql (.t 24) (cI 0),mT 26 25,gT 27 26 true 5 1,gL 28 26 true F.R01_spare [(.t 27),(cB true),(cB false),(cB false)],pA 29 26 28,mT 30 29,
 gF 31 30 true 1 1,g1 32 30 true 31,gL 33 30 true F.R01_in [(.t 32),(cI 0),(cI 1)],pA 34 30 33,mT 2 34])
 .ret)
 (.seq (.seq (.ops [bN 36 .eql (.t 8) (cI 3),mT 35 36])
 (.cond (.t 35)
 .skip
 (.seq (.ops [bN 37 .eql (.t 8) (cI 21),mT 35 37])
 (.cond (.t 35)
 .skip
 (.seq (.ops [bN 38 .eql (.t 8) (cI 25),mT 35 38])
 (.cond (.t 35)
 .skip
 (.ops [bN 39 .eql (.t 8) (cI 28),mT 35 39])))))))
 (.cond (.t 35)
 (.seq (.ops [mT 40 3,bN 41 .eql (.t 40) (cI 0),mT 42 41,gT 43 42 true 5 1,gL 44 42 true F.R01_spare [(.t 43),(cB false),(cB false),(cB false)],pA 45 42 44,mT 2 45])
 .ret)
 (.seq (.ops [bN 47 .eql (.t 8) (cI 4),mT 46 47])
 (.cond (.t 46)
 (.seq (.ops [mT 48 3,bN 49 .eql (.t 48) (cI 0),mT 50 49,gT 51 50 true 5 1,gL 52 50 true F.R01_spare [(.t 51),(cB false),(cB true),(cB false)],pA 53 50 52,mT 54 53,
 gF 55 54 true 2 1,g1 56 54 true 55,gL 57 54 true F.R01_Name [(.t 56)],pA 58 54 57,mT 2 58])
 .ret)
 (.seq (.seq (.ops [bN 60 .eql (.t 8) (cI 5),mT 59 60])
 (.cond (.t 59)
 .skip
 (.ops [bN 61 .eql (.t 8) (cI 27),mT 59 61])))
 (.cond (.t 59)
 (.seq (.ops [mT 62 3,bN 63 .eql (.t 62) (cI 1),mT 64 63,gT 65 64 true 5 1,gL 66 64 true F.R01_spare [(.t 65),(cB false),(cB true),(cB false)],pA 67 64 66,mT 68 67,
 gF 69 68 true 2 1,g1 70 68 true 69,gL 71 68 true F.R01_Name [(.t 70)],pA 72 68 71,mT 2 72])
 .ret)
 (.seq (.ops [bN 74 .eql (.t 8) (cI 7),mT 73 74])
 (.cond (.t 73)
 (.seq (.ops [mT 75 3,bN 76 .eql (.t 75) (cI 2),mT 77 76,gT 78 77 true 5 1,gL 79 77 true F.R01_spare [(.t 78),(cB false),(cB true),(cB false)],pA 80 77 79,mT 81 80,
 gF 82 81 true 2 1,g1 83 81 true 82,gL 84 81 true F.R01_Name [(.t 83)],pA 85 81 84,mT 2 85])
 .ret)
 (.seq (.ops [bN 87 .eql (.t 8) (cI 8),mT 86 87])
 (.cond (.t 86)
 (.seq (.ops [mT 88 3,bN 89 .eql (.t 88) (cI 3),mT 90 89,gT 91 90 true 5 1,gL 92 90 true F.R01_spare [(.t 91),(cB false),(cB false),(cB false)],pA 93 90 92,mT 2 93])
 .ret)
 (.seq (.ops [bN 95 .eql (.t 8) (cI 14),mT 94 95])
 (.cond (.t 94)
 (.seq (.ops [mT 96 3,bN 97 .leq (.t 96) (cI 3),mT 98 97,gT 99 98 true 5 1,gL 100 98 true F.R01_spare [(.t 99),(cB false),(cB true),(cB false)],pA 101 98 100,
 mT 102 101,gF 103 102 true 2 1,g1 104 102 true 103,gL 105 102 true F.R01_Great [(.t 104)],pA 106 102 105,mT 2 106])
 .ret)
 (.seq (.ops [bN 108 .eql (.t 8) (cI 15),mT 107 108])
 (.cond (.t 107)
 (.seq (.ops [fA 109 4 1,l1 110 109,lN 111 110,cL 112 F.R01_in [(.t 111),(cI 1),(cI 5)],mT 113 112,gM 114 113 true 3,gF 115 113 true 4 1,g1 116 113 true 115,
 gN 117 113 true 116,gB 118 113 true .add (cI 1) (.t 117),gB 119 113 true .eql (.t 114) (.t 118),pA 120 113 119,mT 121 120,gT 122 121 true 5 1,
 gL 123 121 true F.R01_spare [(.t 122),(cB false),(cB false),(cB true)],pA 124 121 123,mT 2 124])
 .ret)
 (.seq (.seq (.ops [bN 126 .eql (.t 8) (cI 16),mT 125 126])
 (.cond (.t 125)
 .skip
 (.seq (.ops [bN 127 .eql (.t 8) (cI 17),mT 125 127])
 (.cond (.t 125)
 .skip
 (.seq (.ops [bN 128 .eql (.t 8) (cI 19),mT 125 128])
 (.cond (.t 125)
 .skip
 (.seq (.ops [bN 129 .eql (.t 8) (cI 20),mT 125 129])
 (.cond (.t 125)
 .skip
 (.seq (.ops [bN 130 .eql (.t 8) (cI 23),mT 125 130])
 (.cond (.t 125)
 .skip
 (.ops [bN 131 .eql (.t 8) (cI 26),mT 125 131])))))))))))
 (.cond (.t 125)
 (.seq (.ops [mT 132 3,bN 133 .eql (.t 132) (cI 1),mT 134 133,gT 135 134 true 5 1,gL 136 134 true F.R01_spare [(.t 135),(cB false),(cB false),(cB false)],
 pA 137 134 136,mT 2 137])
 .ret)
 (.seq (.ops [bN 139 .eql (.t 8) (cI 24),mT 138 139])
 (.cond (.t 138)
 (.seq (.ops [mT 140 3,bN 141 .eql (.t 140) (cI 1),mT 142 141,gT 143 142 true 5 1,gL 144 142 true F.R01_spare [(.t 143),(cB true),(cB false),(cB false)],pA 145 142 144,
 mT 146 145,gF 147 146 true 1 1,g1 148 146 true 147,gL 149 146 true F.R01_in [(.t 148),(cI 0),(cI 3)],pA 150 146 149,mT 2 150])
 .ret)
 (.seq (.seq (.ops [bN 152 .eql (.t 8) (cI 6),mT 151 152])
 (.cond (.t 151)
 .skip
 (.seq (.ops [bN 153 .eql (.t 8) (cI 9),mT 151 153])
 (.cond (.t 151)
 .skip
 (.seq (.ops [bN 154 .eql (.t 8) (cI 10),mT 151 154])
 (.cond (.t 151)
 .skip
 (.seq (.ops [bN 155 .eql (.t 8) (cI 11),mT 151 155])
 (.cond (.t 151)
 .skip
 (.seq (.ops [bN 156 .eql (.t 8) (cI 12),mT 151 156])
 (.cond (.t 151)
 .skip
 (.seq (.ops [bN 157 .eql (.t 8) (cI 13),mT 151 157])
 (.cond (.t 151)
 .skip
 (.seq (.ops [bN 158 .eql (.t 8) (cI 18),mT 151 158])
 (.cond (.t 151)
 .skip
 (.ops [bN 159 .eql (.t 8) (cI 22),mT 151 159])))))))))))))))
 (.cond (.t 151)
 (.seq (.ops [mT 160 3,bN 161 .eql (.t 160) (cI 2),mT 162 161,gT 163 162 true 5 1,gL 164 162 true F.R01_spare [(.t 163),(cB false),(cB false),(cB false)],
 pA 165 162 164,mT 2 165])
 .ret)
 .skip))))))))))))))))))))))))))
 (.seq (.ops [mC 2 (.bool false)])
 .ret)))) }
def C.slices_ContainsFunc_s_api_BindCon_api_BindCon : LFunc := { np := 2,res := [.tmp 4],keep := false,body :=
 (.seq (.ops [mC 4 (.bool false)])
 (.seq (.ops [mT 5 0,mT 6 1,cL 7 F.slices_IndexFunc_s_api_BindCon_api_BindCon [(.t 5),(.t 6)],bN 8 .geq (.t 7) (cI 0),mT 4 8])
 .ret)) }
def C.slices_ContainsFunc_s_api_BindNode_api_BindNode : LFunc := { np := 2,res := [.tmp 4],keep := false,body :=
 (.seq (.ops [mC 4 (.bool false)])
 (.seq (.ops [mT 5 0,mT 6 1,cL 7 F.slices_IndexFunc_s_api_BindNode_api_BindNode [(.t 5),(.t 6)],bN 8 .geq (.t 7) (cI 0),mT 4 8])
 .ret)) }
def C.bind_every_api_BindNode_c1 : LFunc := { np := 2,res := [.tmp 3],keep := false,body :=
 (.seq (.ops [bX 2 4 0,mC 3 (.bool false)])
 (.seq (.ops [l1 4 1,lT 5 4 2,o 6 (.call (.t 4) [(.t 5)]),nT 7 6,mT 3 7])
 .ret)) }
def C.bind_kidsOf : LFunc := { np := 1,res := [.tmp 2],keep := false,body :=
 (.seq (.ops [mC 2 .nili])
 (.seq (.seq (.ops [mT 3 0])
 (.block 0 (.seq (.seq (.ops [bN 5 .eql (.t 3) (cI 1),mT 4 5])
 (.cond (.t 4)
 .skip
 (.seq (.ops [bN 6 .eql (.t 3) (cI 2),mT 4 6])
 (.cond (.t 4)
 .skip
 (.seq (.ops [bN 7 .eql (.t 3) (cI 3),mT 4 7])
 (.cond (.t 4)
 .skip
 (.seq (.ops [bN 8 .eql (.t 3) (cI 4),mT 4 8])
 (.cond (.t 4)
 .skip
 (.seq (.ops [bN 9 .eql (.t 3) (cI 21),mT 4 9])
 (.cond (.t 4)
 .skip
 (.seq (.ops [bN 10 .eql (.t 3) (cI 25),mT 4 10])
 (.cond (.t 4)
 .skip
 (.ops [bN 11 .eql (.t 3) (cI 28),mT 4 11])))))))))))))
 (.cond (.t 4)
 (.seq (.ops [o 12 (.iface 381 (cI 0)),mT 2 12])
 .ret)
 (.seq (.seq (.ops [bN 14 .eql (.t 3) (cI 5),mT 13 14])
 (.cond (.t 13)
 .skip
 (.seq (.ops [bN 15 .eql (.t 3) (cI 27),mT 13 15])
 (.cond (.t 13)
 .skip
 (.seq (.ops [bN 16 .eql (.t 3) (cI 16),mT 13 16])
 (.cond (.t 13)
 .skip
 (.seq (.ops [bN 17 .eql (.t 3) (cI 17),mT 13 17])
 (.cond (.t 13)
 .skip
 (.seq (.ops [bN 18 .eql (.t 3) (cI 19),mT 13 18])
 (.cond (.t 13)
 .skip
 (.seq (.ops [bN 19 .eql (.t 3) (cI 20),mT 13 19])
 (.cond (.t 13)
 .skip
 (.seq (.ops [bN 20 .eql (.t 3) (cI 23),mT 13 20])
 (.cond (.t 13)
 .skip
 (.seq (.ops [bN 21 .eql (.t 3) (cI 24),mT 13 21])
 (.cond (.t 13)
 .skip
 (.ops [bN 22 .eql (.t 3) (cI 26),mT 13 22])))))))))))))))))
 (.cond (.t 13)
 (.seq (.ops [o 23 (.iface 381 (cI 1)),mT 2 23])
 .ret)
 (.seq (.seq (.ops [bN 25 .eql (.t 3) (cI 6),mT 24 25])
 (.cond (.t 24)
 .skip
 (.seq (.ops [bN 26 .eql (.t 3) (cI 7),mT 24 26])
 (.cond (.t 24)
 .skip
 (.seq (.ops [bN 27 .eql (.t 3) (cI 9),mT 24 27])
 (.cond (.t 24)
 .skip
 (.seq (.ops [bN 28 .eql (.t 3) (cI 10),mT 24 28])
 (.cond (.t 24)
 .skip
 (.seq (.ops [bN 29 .eql (.t 3) (cI 11),mT 24 29])
 (.cond (.t 24)
 .skip
 (.seq (.ops [bN 30 .eql (.t 3) (cI 12),mT 24 30])
 (.cond (.t 24)
 .skip
 (.seq (.ops [bN 31 .eql (.t 3) (cI 13),mT 24 31])
 (.cond (.t 24)
 .skip
 (.seq (.ops [bN 32 .eql (.t 3) (cI 18),mT 24 32])
 (.cond (.t 24)
 .skip
 (.ops [bN 33 .eql (.t 3) (cI 22),mT 24 33])))))))))))))))))
 (.cond (.t 24)
 (.seq (.ops [o 34 (.iface 381 (cI 2)),mT 2 34])
 .ret)
 (.seq (.ops [bN 36 .eql (.t 3) (cI 8),mT 35 36])
 (.cond (.t 35)
 (.seq (.ops [o 37 (.iface 381 (cI 3)),mT 2 37])
 .ret)
 (.seq (.ops [bN 39 .eql (.t 3) (cI 14),mT 38 39])
 (.cond (.t 38)
 (.seq (.ops [o 40 (.build [] []),o 41 (.iface 382 (.t 40)),mT 2 41])
 .ret)
 (.seq (.ops [bN 43 .eql (.t 3) (cI 15),mT 42 43])
 (.cond (.t 42)
 (.seq (.ops [o 44 (.build [] []),o 45 (.iface 355 (.t 44)),mT 2 45])
 .ret)
 .skip))))))))))))))
 (.seq (.ops [mC 2 .nili])
 .ret))) }
def C.bind_program_number : LFunc := { np := 2,res := [.tmp 4],keep := false,body :=
 (.seq (.ops [bX 2 4 0,bX 3 4 1,mC 4 (.bool false)])
 (.seq (.seq (.ops [fA 5 0 3,l1 6 5])
 (.block 0 (.seq (.ops [bN 8 .eql (.t 6) (cI 1),mT 7 8])
 (.cond (.t 7)
 (.seq (.ops [fA 9 1 3,l1 10 9,cL 11 F.bind_integer [(.t 10)],mT 4 11])
 .ret)
 (.seq (.ops [bN 13 .eql (.t 6) (cI 2),mT 12 13])
 (.cond (.t 12)
 (.seq (.ops [fA 14 1 3,l1 15 14,cL 16 F.bind_in [(.t 15),(cI 0),(cI 1)],mT 4 16])
 .ret)
 (.seq (.ops [bN 18 .eql (.t 6) (cI 24),mT 17 18])
 (.cond (.t 17)
 (.seq (.ops [fA 19 1 3,l1 20 19,cL 21 F.bind_in [(.t 20),(cI 0),(cI 3)],mT 4 21])
 .ret)
 (.seq (.ops [bN 23 .eql (.t 6) (cI 4),mT 22 23])
 (.cond (.t 22)
 (.seq (.ops [fA 24 1 3,l1 25 24,fA 26 0 2,fA 27 1 26,l1 28 27,lN 29 28,o 30 (.un .neg (.t 29)),cL 31 F.bind_in [(.t 25),(.t 30),(cI 29)],mT 4 31])
 .ret)
 (.seq (.ops [bN 33 .eql (.t 6) (cI 14),mT 32 33])
 (.cond (.t 32)
 (.seq (.ops [mC 4 (.bool true)])
 .ret)
 .skip))))))))))))
 (.seq (.ops [fA 34 1 3,l1 35 34,bN 36 .eql (.t 35) (cI 0),mT 4 36])
 .ret))) }
def C.bind_every_api_TermPat : LFunc := { np := 2,res := [.tmp 4],keep := false,body :=
 (.seq (.ops [bX 3 1 1,mC 4 (.bool false)])
 (.seq (.ops [mT 5 0,o 6 (.mkfn F.bind_every_api_TermPat_c1 [] [(.t 3)]),cL 7 F.slices_ContainsFunc_s_api_TermPat_api_TermPat [(.t 5),(.t 6)],nT 8 7,mT 4 8])
 .ret)) }
def C.slices_ContainsFunc_s_int_int : LFunc := { np := 2,res := [.tmp 4],keep := false,body :=
 (.seq (.ops [mC 4 (.bool false)])
 (.seq (.ops [mT 5 0,mT 6 1,cL 7 F.slices_IndexFunc_s_int_int [(.t 5),(.t 6)],bN 8 .geq (.t 7) (cI 0),mT 4 8])
 .ret)) }
def C.bind_every_int_c1 : LFunc := { np := 2,res := [.tmp 3],keep := false,body :=
 (.seq (.ops [mC 3 (.bool false)])
 (.seq (.ops [l1 4 1,mT 5 0,o 6 (.call (.t 4) [(.t 5)]),nT 7 6,mT 3 7])
 .ret)) }
def C.slices_IndexFunc_s_api_MeanObj_api_MeanObj : LFunc := { np := 2,res := [.tmp 4],keep := false,body :=
 (.seq (.ops [mC 4 (.int .i64 0)])
 (.seq (.seq (.ops [mT 6 0,lN 7 6,mC 8 (.int .i64 0)])
 (.block 0 (.loop (.seq (.ops [bN 9 .lss (.t 8) (.t 7)])
 (.seq (.cond (.t 9)
 .skip
 (.exit 0))
 (.seq (.block 1 (.seq (.ops [mT 10 8,mT 5 10])
 (.seq (.ops [mT 11 1,mT 12 0,mT 13 5,iA 14 4 12 13,lT 15 4 14,o 16 (.call (.t 11) [(.t 15)])])
 (.cond (.t 16)
 (.seq (.ops [mT 17 5,mT 4 17])
 .ret)
 .skip))))
 (.ops [bN 18 .add (.t 8) (cI 1),mT 8 18])))))))
 (.seq (.ops [mC 4 (.int .i64 (-1))])
 .ret))) }
def C.slices_ContainsFunc_s_api_MeanVal_api_MeanVal : LFunc := { np := 2,res := [.tmp 4],keep := false,body :=
 (.seq (.ops [mC 4 (.bool false)])
 (.seq (.ops [mT 5 0,mT 6 1,cL 7 F.slices_IndexFunc_s_api_MeanVal_api_MeanVal [(.t 5),(.t 6)],bN 8 .geq (.t 7) (cI 0),mT 4 8])
 .ret)) }
def C.mean_all_api_MeanVal_c1 : LFunc := { np := 2,res := [.tmp 3],keep := false,body :=
 (.seq (.ops [bX 2 2 0,mC 3 (.bool false)])
 (.seq (.ops [l1 4 1,lT 5 2 2,o 6 (.call (.t 4) [(.t 5)]),nT 7 6,mT 3 7])
 .ret)) }
def C.mean_all_api_MeanFrame : LFunc := { np := 2,res := [.tmp 4],keep := false,body :=
 (.seq (.ops [bX 3 1 1,mC 4 (.bool false)])
 (.seq (.ops [mT 5 0,o 6 (.mkfn F.mean_all_api_MeanFrame_c1 [] [(.t 3)]),cL 7 F.slices_ContainsFunc_s_api_MeanFrame_api_MeanFrame [(.t 5),(.t 6)],nT 8 7,mT 4 8])
 .ret)) }
def C.mean_runner_frame : LFunc := { np := 2,res := [.tmp 4],keep := false,body :=
 (.seq (.ops [bX 3 3 1,mC 4 (.bool false)])
 (.seq (.draw [fA 5 0 3,l1 6 5,mT 7 0,nK 8 7,fA 9 0 8,fA 10 0 9,l1 11 10,lN 12 11,bN 13 .sub (.t 12) (cI 1),cL 14 F.mean_within [(.t 6),(cI 0),(.t 13)],mT 15 14,
 gF 16 15 true 1 3,g1 17 15 true 16,gN 18 15 true 17,gB 19 15 true .leq (.t 18) (cI 30),pA 20 15 19,mT 21 20,gF 22 21 true 2 3,g1 23 21 true 22,gN 24 21 true 23,
 gM 25 21 true 0,og 26 21 true (.nilck (.t 25)),gF 27 21 true 0 26,gF 28 21 true 0 27,g1 29 21 true 28,gF 30 21 true 0 3,g1 31 21 true 30,
 og 32 21 true (.ia 4 (.t 29) (.t 31)),gT 33 21 true 4 32,gL 34 21 true F.mean_asks [(.t 33)],gB 35 21 true .leq (.t 24) (.t 34),pA 36 21 35,mT 37 36,gF 38 37 true 1 3,
 g1 39 37 true 38,gM 40 37 true 0,og 41 37 true (.mkfn F.mean_runner_value [(.t 40)] []),gL 42 37 true F.mean_all_api_MeanVal [(.t 39),(.t 41)],pA 43 37 42,mT 44 43,
 gF 45 44 true 2 3,g1 46 44 true 45,gM 47 44 true 0,og 48 44 true (.mkfn F.mean_runner_value [(.t 47)] []),gL 49 44 true F.mean_all_api_MeanVal [(.t 46),(.t 48)],
 pA 50 44 49,mT 4 50]
 [(18,29),(19,29)])
 .ret)) }
def C.mean_runner_open : LFunc := { np := 2,res := [.tmp 4],keep := false,body :=
 (.seq (.ops [bX 3 3 1,mC 4 (.bool false)])
 (.seq (.draw [fA 5 2 3,l1 6 5,lN 7 6,mT 8 0,nK 9 8,fA 10 0 9,fA 11 0 10,l1 12 11,fA 13 0 3,l1 14 13,iA 15 4 12 14,lT 16 4 15,cL 17 F.mean_asks [(.t 16)],
 bN 18 .lss (.t 7) (.t 17),mT 4 18]
 [(1,12),(2,12)])
 .ret)) }
def C.mean_all_int_c1 : LFunc := { np := 2,res := [.tmp 3],keep := false,body :=
 (.seq (.ops [mC 3 (.bool false)])
 (.seq (.ops [l1 4 1,mT 5 0,o 6 (.call (.t 4) [(.t 5)]),nT 7 6,mT 3 7])
 .ret)) }
def C.slices_AppendSeq_s_int_int : LFunc := { np := 2,res := [.tmp 4],keep := false,body :=
 (.seq (.ops [bX 2 1 0,mC 4 (.cl [])])
 (.seq (.seq (.ops [mT 6 1])
 (.block 0 (.rangeF (.t 6) [7]
 (.ops [mT 5 7])
 (.block 1 (.ops [l1 8 2,mT 9 5,o 10 (.bslice 1 1 [(.int .i64 0)] [(0,(.t 9))]),o 11 (.append 1 (.t 8) (.t 10)),sT 1 2 11])))))
 (.seq (.ops [l1 12 2,mT 4 12])
 .ret))) }
def C.mean_numbers_c1 : LFunc := { np := 2,res := [],keep := false,body :=
 (.seq (.ops [l1 4 1,mC 5 (.int .i64 0)])
 (.block 0 (.loop (.seq (.ops [bN 6 .lss (.t 5) (.t 4)])
 (.seq (.cond (.t 6)
 .skip
 (.exit 0))
 (.seq (.block 1 (.seq (.ops [mT 7 5,mT 3 7])
 (.seq (.ops [mT 8 0,mT 9 3,o 10 (.icall (.t 8) [(.t 9)]),nT 11 10])
 (.cond (.t 11)
 .ret
 .skip))))
 (.ops [bN 12 .add (.t 5) (cI 1),mT 5 12]))))))) }
def C.slices_IndexFunc_s_api_MeanOut_api_MeanOut : LFunc := { np := 2,res := [.tmp 4],keep := false,body :=
 (.seq (.ops [mC 4 (.int .i64 0)])
 (.seq (.seq (.ops [mT 6 0,lN 7 6,mC 8 (.int .i64 0)])
 (.block 0 (.loop (.seq (.ops [bN 9 .lss (.t 8) (.t 7)])
 (.seq (.cond (.t 9)
 .skip
 (.exit 0))
 (.seq (.block 1 (.seq (.ops [mT 10 8,mT 5 10])
 (.seq (.ops [mT 11 1,mT 12 0,mT 13 5,iA 14 2 12 13,lT 15 2 14,o 16 (.call (.t 11) [(.t 15)])])
 (.cond (.t 16)
 (.seq (.ops [mT 17 5,mT 4 17])
 .ret)
 .skip))))
 (.ops [bN 18 .add (.t 8) (cI 1),mT 8 18])))))))
 (.seq (.ops [mC 4 (.int .i64 (-1))])
 .ret))) }
def C.mean_turner_comes : LFunc := { np := 2,res := [.tmp 4],keep := false,body :=
 (.seq (.ops [bX 3 2 1,mC 4 .nili])
 (.seq (.ops [mT 5 0,lT 6 2 3,o 7 (.bslice 1 2 [(.int .i64 0),(.int .i64 0)] [(0,(.t 6))]),nK 8 5,fA 9 10 8,sT 1 9 7])
 (.seq (.ops [o 10 (.build [] []),o 11 (.iface 255 (.t 10)),mT 4 11])
 .ret))) }
def C.mean_number : LFunc := { np := 1,res := [.cell 2 true 2],keep := false,body :=
 (.seq (.ops [o 2 (.alloc [(.int .i64 0),(.int .i64 0)])])
 (.seq (.ops [mT 3 0,o 4 (.build [(.int .i64 0),(.int .i64 0)] [(0,1,(cI 1)),(1,1,(.t 3))]),sT 2 2 4])
 .ret)) }
def C.mean_unit : LFunc := { np := 0,res := [.cell 0 true 2],keep := false,body :=
 (.seq (.ops [o 0 (.alloc [(.int .i64 0),(.int .i64 0)])])
 (.seq (.ops [o 1 (.build [(.int .i64 0),(.int .i64 0)] [(0,1,(cI 3))]),sT 2 0 1])
 .ret)) }
def C.mean_turner_create : LFunc := { np := 2,res := [.cell 4 true 2],keep := false,nrm := [[0]],body :=
 (.seq (.ops [bX 3 4 1,o 4 (.alloc [(.int .i64 0),(.int .i64 0)])])
 (.seq (.opsP [mT 5 0,nK 6 5,fA 7 0 6,l1 8 7,nK 9 8,fA 10 4 9,fA 11 0 10,l1 12 11,lN 13 12,bN 14 .lss (.t 13) (cI 120),cL 15 F.mean_must [(.t 14),(cI 4)]])
 (.seq (.draw [mT 16 0,nK 17 16,fA 18 0 17,l1 19 18,mT 20 0,nK 21 20,fA 22 0 21,l1 23 22,nK 24 23,fA 25 4 24,fA 26 0 25,l1 27 26,
 cL 28 F.slices_Clip_s_api_MeanObj_api_MeanObj [(.t 27)],lT 29 4 3,o 30 (.bslice 1 4 [(.int .i64 0),(.int .i64 0),(.cl []),(.cl [])] [(0,(.t 29))]),
 o 31 (.append 4 (.t 28) (.t 30)),nK 32 19,fA 33 4 32,fA 34 0 33,sT 1 34 31]
 [(3,12),(12,13),(3,14),(7,14),(11,14),(12,14),(3,15)])
 (.seq (.ops [mT 35 0,nK 36 35,fA 37 0 36,l1 38 37,nK 39 38,fA 40 4 39,fA 41 0 40,l1 42 41,lN 43 42,bN 44 .sub (.t 43) (cI 1),
 o 45 (.build [(.int .i64 0),(.int .i64 0)] [(0,1,(cI 5)),(1,1,(.t 44))]),sT 2 4 45])
 .ret)))) }
def C.mean_turner_want : LFunc := { np := 3,res := [.cell 6 true 4],keep := false,body :=
 (.seq (.ops [bX 4 2 1,o 6 (.alloc [(.int .i64 0),(.int .i64 0),(.cl []),(.cl [])])])
 (.seq (.ops [mT 10 0,lT 11 2 4,mT 12 2,o 13 (.icall (.f F.mean_turner_object) [(.t 10),(.t 11),(.t 12)]),mT 9 13,o 14 (.ext 0 (.t 9)),o 15 (.ext 1 (.t 9)),
 o 7 (.alloc [(.int .i64 0),(.int .i64 0),(.cl []),(.cl [])]),sT 4 7 14,mT 8 15])
 (.seq (.opsP [mT 16 8,cL 17 F.mean_must [(.t 16),(cI 2)]])
 (.seq (.ops [lT 18 4 7,sT 4 6 18])
 .ret)))) }
def C.mean_with : LFunc := { np := 2,res := [.tmp 4],keep := false,body :=
 (.seq (.ops [mC 4 (.cl [])])
 (.seq (.opsP [mT 5 0,lN 6 5,mT 7 1,lN 8 7,bN 9 .add (.t 6) (.t 8),bN 10 .leq (.t 9) (cI 30),cL 11 F.mean_must [(.t 10),(cI 4)]])
 (.seq (.ops [mT 12 0,cL 13 F.slices_Clip_s_api_MeanVal_api_MeanVal [(.t 12)],mT 14 1,o 15 (.append 2 (.t 13) (.t 14)),mT 4 15])
 .ret))) }
def C.mean_turner_ints : LFunc := { np := 1,res := [.tmp 2,.tmp 3],keep := false,body :=
 (.seq (.ops [mC 2 (.int .i64 0),mC 3 (.int .i64 0)])
 (.seq (.opsP [mT 4 0,nK 5 4,fA 6 3 5,fA 7 2 6,l1 8 7,o 9 (.ia 2 (.t 8) (cI 0)),fA 10 0 9,l1 11 10,bN 12 .eql (.t 11) (cI 1),mT 13 12,gM 14 13 true 0,
 og 15 13 true (.nilck (.t 14)),gF 16 13 true 3 15,gF 17 13 true 2 16,g1 18 13 true 17,og 19 13 true (.ia 2 (.t 18) (cI 1)),gF 20 13 true 0 19,g1 21 13 true 20,
 gB 22 13 true .eql (.t 21) (cI 1),pA 23 13 22,cL 24 F.mean_must [(.t 23),(cI 2)]])
 (.seq (.draw [mT 25 0,nK 26 25,fA 27 3 26,fA 28 2 27,l1 29 28,o 30 (.ia 2 (.t 29) (cI 0)),fA 31 1 30,l1 32 31,mT 33 0,nK 34 33,fA 35 3 34,fA 36 2 35,l1 37 36,
 o 38 (.ia 2 (.t 37) (cI 1)),fA 39 1 38,l1 40 39,mT 2 32,mT 3 40]
 [])
 .ret))) }
def C.mean_turner_acts : LFunc := { np := 3,res := [.tmp 6],keep := false,body :=
 (.seq (.ops [bX 4 2 1,bX 5 2 2,mC 6 .nili])
 (.seq (.ops [mT 8 0,lT 9 2 4,o 10 (.bslice 1 2 [(.int .i64 0),(.int .i64 0)] [(0,(.t 9))]),nK 11 8,fA 12 10 11,sT 1 12 10])
 (.seq (.draw [mT 13 0,nK 14 13,fA 15 1 14,l1 16 15,mT 17 0,nK 18 17,fA 19 6 18,fA 20 0 19,l1 21 20,lT 22 2 5,cL 23 F.mean_masked [(.t 22)],
 o 24 (.build [(.int .i64 0),(.int .i64 0),(.int .i64 0),(.int .i64 0),(.int .i64 0)] [(0,1,(.t 16)),(1,1,(.t 21)),(3,2,(.t 23))]),
 o 7 (.alloc [(.int .i64 0),(.int .i64 0),(.int .i64 0),(.int .i64 0),(.int .i64 0)]),sT 5 7 24]
 [(3,10),(8,10),(3,12),(8,12),(9,12),(10,12)])
 (.seq (.seq (.ops [mT 25 0,nK 26 25,fA 27 6 26,fA 28 0 27,l1 29 28,bN 30 .eql (.t 29) (cI 24)])
 (.cond (.t 30)
 (.ops [mT 31 0,nK 32 31,fA 33 6 32,fA 34 1 33,l1 35 34,fA 36 2 7,sT 1 36 35])
 .skip))
 (.seq (.ops [lT 37 5 7,o 38 (.build [(.int .i64 0),(.int .i64 0),(.int .i64 0),(.int .i64 0),(.int .i64 0)] [(0,5,(.t 37))]),o 39 (.iface 247 (.t 38)),mT 6 39])
 .ret))))) }
def C.mean_turner_change : LFunc := { np := 3,res := [],keep := false,nrm := [[0]],body :=
 (.seq (.ops [bX 5 4 2])
 (.seq (.draw [mT 6 0,nK 7 6,fA 8 0 7,l1 9 8,mT 10 0,nK 11 10,fA 12 0 11,l1 13 12,nK 14 13,fA 15 4 14,fA 16 0 15,l1 17 16,
 cL 18 F.slices_Clone_s_api_MeanObj_api_MeanObj [(.t 17)],nK 19 9,fA 20 4 19,fA 21 0 20,sT 1 21 18]
 [(3,12)])
 (.draw [mT 22 0,nK 23 22,fA 24 0 23,l1 25 24,nK 26 25,fA 27 4 26,fA 28 0 27,l1 29 28,mT 30 1,lT 31 4 5,iA 32 4 29 30,sT 4 32 31]
 []))) }
def C.slices_Clip_s_api_MeanOut_api_MeanOut : LFunc := { np := 1,res := [.tmp 2],keep := true,body :=
 (.seq (.ops [mC 2 (.cl [])])
 (.seq (.ops [mT 3 0,mT 4 0,lN 5 4,mT 6 0,lN 7 6,o 8 (.slice false 2 (.t 3) none (some (.t 5)) (some (.t 7))),mT 2 8])
 .ret)) }
def C.R02_letter : LFunc := { np := 1,res := [.tmp 2],keep := false,body :=
 (.seq (.ops [mC 2 (.bool false)])
 (.seq (.ops [mT 3 0,bN 4 .geq (.t 3) (.c (.int .u8 97)),mT 5 4,gM 6 5 true 0,gB 7 5 true .leq (.t 6) (.c (.int .u8 122)),pA 8 5 7,mT 2 8])
 .ret)) }
def C.R02_run : LFunc := { np := 3,res := [.tmp 6],keep := false,body :=
 (.seq (.ops [mC 6 (.int .i64 0)])
 (.seq (.ops [mT 8 1,mT 7 8])
 (.seq (.block 0 (.loop (.seq (.seq (.ops [mT 9 7,mT 10 0,o 11 (.len .str (.t 10)),bN 12 .lss (.t 9) (.t 11),mT 13 12,gM 14 13 true 2,gM 15 13 true 14,gM 16 15 true 0,
 gM 17 15 true 7,og 18 15 true (.ixs (.t 16) (.t 17)),gL 19 15 true F.R02_digit [(.t 18)],og 20 13 true (.pick (.t 15) (.t 19) (cB false)),gM 21 13 true 20,
 gM 22 21 false 2,og 23 21 false (.un .not (.t 22)),gM 24 21 false 23,gM 25 24 true 0,gM 26 24 true 7,og 27 24 true (.ixs (.t 25) (.t 26)),
 gL 28 24 true F.R02_letter [(.t 27)],og 29 21 false (.pick (.t 24) (.t 28) (cB false)),og 30 13 true (.pick (.t 21) (cB true) (.t 29)),pA 31 13 30])
 (.cond (.t 31)
 .skip
 (.exit 0)))
 (.block 1 (.ops [mT 32 7,bN 33 .add (.t 32) (cI 1),mT 7 33])))))
 (.seq (.ops [mT 34 7,mT 35 1,bN 36 .sub (.t 34) (.t 35),mT 6 36])
 .ret)))) }
def C.R02_great : LFunc := { np := 1,res := [.tmp 2],keep := false,body :=
 (.seq (.ops [mC 2 (.bool false)])
 (.seq (.ops [mT 3 0,bN 4 .geq (.t 3) (.c (.int .u8 65)),mT 5 4,gM 6 5 true 0,gB 7 5 true .leq (.t 6) (.c (.int .u8 90)),pA 8 5 7,mT 2 8])
 .ret)) }
def C.R02_digit : LFunc := { np := 1,res := [.tmp 2],keep := false,body :=
 (.seq (.ops [mC 2 (.bool false)])
 (.seq (.ops [mT 3 0,bN 4 .geq (.t 3) (.c (.int .u8 48)),mT 5 4,gM 6 5 true 0,gB 7 5 true .leq (.t 6) (.c (.int .u8 57)),pA 8 5 7,mT 2 8])
 .ret)) }
def C.R02_integer : LFunc := { np := 2,res := [.tmp 4],keep := false,body :=
 (.seq (.ops [mC 4 (.int .i64 0)])
 (.seq (.ops [mT 7 1,mT 5 7])
 (.seq (.seq (.ops [mT 8 0,mT 9 1,o 10 (.ixs (.t 8) (.t 9)),bN 11 .eql (.t 10) (.c (.int .u8 126))])
 (.cond (.t 11)
 (.ops [mT 12 5,bN 13 .add (.t 12) (cI 1),mT 5 13])
 .skip))
 (.seq (.ops [mT 14 0,mT 15 5,cL 16 F.R02_run [(.t 14),(.t 15),(cB true)],mT 6 16])
 (.seq (.seq (.ops [mT 17 6,bN 18 .eql (.t 17) (cI 0),mT 19 18,gM 20 19 false 6,gB 21 19 false .gtr (.t 20) (cI 10),pO 22 19 21,mT 23 22,gM 24 23 false 0,
 gM 25 23 false 5,og 26 23 false (.ixs (.t 24) (.t 25)),gB 27 23 false .eql (.t 26) (.c (.int .u8 48)),gM 28 23 false 27,gM 29 28 true 6,
 gB 30 28 true .gtr (.t 29) (cI 1),gM 31 28 true 30,gM 32 31 false 5,gM 33 31 false 1,gB 34 31 false .gtr (.t 32) (.t 33),
 og 35 28 true (.pick (.t 31) (cB true) (.t 34)),og 36 23 false (.pick (.t 28) (.t 35) (cB false)),pO 37 23 36])
 (.cond (.t 37)
 (.seq (.ops [mC 4 (.int .i64 0)])
 .ret)
 .skip))
 (.seq (.ops [mT 38 5,mT 39 1,bN 40 .sub (.t 38) (.t 39),mT 41 6,bN 42 .add (.t 40) (.t 41),mT 4 42])
 .ret)))))) }
def C.R02_number : LFunc := { np := 1,res := [.tmp 2],keep := false,body :=
 (.seq (.ops [mC 2 (.int .i64 0)])
 (.seq (.seq (.ops [mT 5 0,o 6 (.ixs (.t 5) (cI 0)),bN 7 .eql (.t 6) (.c (.int .u8 126))])
 (.cond (.t 7)
 (.seq (.ops [mT 8 0,o 9 (.slice true 1 (.t 8) (some (cI 1)) none none),cL 10 F.R02_number [(.t 9)],o 11 (.un .neg (.t 10)),mT 2 11])
 .ret)
 .skip))
 (.seq (.ops [mC 3 (.int .i64 0)])
 (.seq (.seq (.ops [mC 4 (.int .i64 0)])
 (.block 0 (.loop (.seq (.seq (.ops [mT 12 4,mT 13 0,o 14 (.len .str (.t 13)),bN 15 .lss (.t 12) (.t 14)])
 (.cond (.t 15)
 .skip
 (.exit 0)))
 (.seq (.block 1 (.ops [mT 18 3,bN 19 .mul (cI 10) (.t 18),mT 20 0,mT 21 4,o 22 (.ixs (.t 20) (.t 21)),bN 23 .sub (.t 22) (.c (.int .u8 48)),o 24 (.wrap .i64 (.t 23)),
 bN 25 .add (.t 19) (.t 24),mT 3 25]))
 (.ops [mT 16 4,bN 17 .add (.t 16) (cI 1),mT 4 17]))))))
 (.seq (.ops [mT 26 3,mT 2 26])
 .ret))))) }
def C.R02_sign : LFunc := { np := 2,res := [.tmp 4],keep := false,body :=
 (.seq (.ops [mC 4 (.str ⟨#[]⟩)])
 (.seq (.ops [cL 7 F.R02_signs [],mT 5 7])
 (.seq (.seq (.ops [mC 6 (.int .i64 0)])
 (.block 0 (.loop (.seq (.seq (.ops [mT 8 6,mT 9 5,lN 10 9,bN 11 .lss (.t 8) (.t 10)])
 (.cond (.t 11)
 .skip
 (.exit 0)))
 (.seq (.block 1 (.seq (.draw [mT 14 0,o 15 (.len .str (.t 14)),mT 16 1,bN 17 .sub (.t 15) (.t 16),mT 18 5,mT 19 6,iA 20 1 18 19,l1 21 20,o 22 (.len .str (.t 21)),
 bN 23 .geq (.t 17) (.t 22),mT 24 23,gM 25 24 true 0,gM 26 24 true 1,gM 27 24 true 1,gM 28 24 true 5,gM 29 24 true 6,og 30 24 true (.ia 1 (.t 28) (.t 29)),
 g1 31 24 true 30,og 32 24 true (.len .str (.t 31)),gB 33 24 true .add (.t 27) (.t 32),og 34 24 true (.slice true 1 (.t 25) (some (.t 26)) (some (.t 33)) none),
 gM 35 24 true 5,gM 36 24 true 6,og 37 24 true (.ia 1 (.t 35) (.t 36)),g1 38 24 true 37,og 39 24 true (.bin .eql .str (.t 34) (.t 38)),pA 40 24 39]
 [])
 (.cond (.t 40)
 (.seq (.ops [mT 41 5,mT 42 6,iA 43 1 41 42,l1 44 43,mT 4 44])
 .ret)
 .skip)))
 (.ops [mT 12 6,bN 13 .add (.t 12) (cI 1),mT 6 13]))))))
 (.seq (.ops [mC 4 (.str ⟨#[]⟩)])
 .ret)))) }
def C.R02_reader_product : LFunc := { np := 1,res := [.cell 2 true 5],keep := false,body :=
 (.seq (.ops [o 2 (.alloc [(.int .i64 0),(.int .i64 0),(.str ⟨#[]⟩),(.cl []),(.cl [])])])
 (.seq (.ops [mT 5 0,o 6 (.icall (.f F.R02_reader_applied) [(.t 5)]),o 3 (.alloc [(.int .i64 0),(.int .i64 0),(.str ⟨#[]⟩),(.cl []),(.cl [])]),sT 5 3 6])
 (.seq (.block 0 (.loop (.seq (.seq (.ops [mT 7 0,o 8 (.icall (.f F.R02_reader_has) [(.t 7),(.c (.str ⟨#[42]⟩))])])
 (.cond (.t 8)
 .skip
 (.exit 0)))
 (.block 1 (.seq (.ops [mT 9 0,o 10 (.icall (.f F.R02_reader_applied) [(.t 9)]),o 4 (.alloc [(.int .i64 0),(.int .i64 0),(.str ⟨#[]⟩),(.cl []),(.cl [])]),sT 5 4 10])
 (.ops [lT 11 5 3,lT 12 5 4,cL 13 F.R02_two [(cI 11),(.t 11),(.t 12)],sT 5 3 13]))))))
 (.seq (.ops [lT 14 5 3,sT 5 2 14])
 .ret)))) }
def C.R01_spare : LFunc := { np := 4,res := [.tmp 8],keep := false,body :=
 (.seq (.ops [bX 4 5 0,mC 8 (.bool false)])
 (.seq (.ops [mT 9 1,mT 10 9,gF 11 10 false 1 4,g1 12 10 false 11,gB 13 10 false .eql (.t 12) (cI 0),pO 14 10 13,mT 15 14,gM 16 15 true 2,gM 17 15 true 16,
 gF 18 17 false 2 4,g1 19 17 false 18,og 20 17 false (.bin .eql .str (.t 19) (.c (.str ⟨#[]⟩))),og 21 15 true (.pick (.t 17) (cB true) (.t 20)),pA 22 15 21,mT 23 22,
 gM 24 23 true 3,gM 25 23 true 24,gF 26 25 false 4 4,g1 27 25 false 26,gN 28 25 false 27,gB 29 25 false .eql (.t 28) (cI 0),
 og 30 23 true (.pick (.t 25) (cB true) (.t 29)),pA 31 23 30,mT 8 31])
 .ret)) }
def C.slices_IndexFunc_s_api_BindCon_api_BindCon : LFunc := { np := 2,res := [.tmp 4],keep := false,body :=
 (.seq (.ops [mC 4 (.int .i64 0)])
 (.seq (.seq (.ops [mT 6 0,lN 7 6,mC 8 (.int .i64 0)])
 (.block 0 (.loop (.seq (.ops [bN 9 .lss (.t 8) (.t 7)])
 (.seq (.cond (.t 9)
 .skip
 (.exit 0))
 (.seq (.block 1 (.seq (.ops [mT 10 8,mT 5 10])
 (.seq (.ops [mT 11 1,mT 12 0,mT 13 5,iA 14 2 12 13,lT 15 2 14,o 16 (.call (.t 11) [(.t 15)])])
 (.cond (.t 16)
 (.seq (.ops [mT 17 5,mT 4 17])
 .ret)
 .skip))))
 (.ops [bN 18 .add (.t 8) (cI 1),mT 8 18])))))))
 (.seq (.ops [mC 4 (.int .i64 (-1))])
 .ret))) }
def C.slices_IndexFunc_s_api_BindNode_api_BindNode : LFunc := { np := 2,res := [.tmp 4],keep := false,body :=
 (.seq (.ops [mC 4 (.int .i64 0)])
 (.seq (.seq (.ops [mT 6 0,lN 7 6,mC 8 (.int .i64 0)])
 (.block 0 (.loop (.seq (.ops [bN 9 .lss (.t 8) (.t 7)])
 (.seq (.cond (.t 9)
 .skip
 (.exit 0))
 (.seq (.block 1 (.seq (.ops [mT 10 8,mT 5 10])
 (.seq (.ops [mT 11 1,mT 12 0,mT 13 5,iA 14 4 12 13,lT 15 4 14,o 16 (.call (.t 11) [(.t 15)])])
 (.cond (.t 16)
 (.seq (.ops [mT 17 5,mT 4 17])
 .ret)
 .skip))))
 (.ops [bN 18 .add (.t 8) (cI 1),mT 8 18])))))))
 (.seq (.ops [mC 4 (.int .i64 (-1))])
 .ret))) }
def C.bind_integer : LFunc := { np := 1,res := [.tmp 2],keep := false,body :=
 (.seq (.ops [mC 2 (.bool false)])
 (.seq (.ops [mT 3 0,cL 4 F.bind_in [(.t 3),(cI (-1000000000)),(cI 1000000000)],mT 2 4])
 .ret)) }
def C.slices_ContainsFunc_s_api_TermPat_api_TermPat : LFunc := { np := 2,res := [.tmp 4],keep := false,body :=
 (.seq (.ops [mC 4 (.bool false)])
 (.seq (.ops [mT 5 0,mT 6 1,cL 7 F.slices_IndexFunc_s_api_TermPat_api_TermPat [(.t 5),(.t 6)],bN 8 .geq (.t 7) (cI 0),mT 4 8])
 .ret)) }
def C.slices_IndexFunc_s_int_int : LFunc := { np := 2,res := [.tmp 4],keep := false,body :=
 (.seq (.ops [mC 4 (.int .i64 0)])
 (.seq (.seq (.ops [mT 6 0,lN 7 6,mC 8 (.int .i64 0)])
 (.block 0 (.loop (.seq (.ops [bN 9 .lss (.t 8) (.t 7)])
 (.seq (.cond (.t 9)
 .skip
 (.exit 0))
 (.seq (.block 1 (.seq (.ops [mT 10 8,mT 5 10])
 (.seq (.ops [mT 11 1,mT 12 0,mT 13 5,iA 14 1 12 13,l1 15 14,o 16 (.call (.t 11) [(.t 15)])])
 (.cond (.t 16)
 (.seq (.ops [mT 17 5,mT 4 17])
 .ret)
 .skip))))
 (.ops [bN 18 .add (.t 8) (cI 1),mT 8 18])))))))
 (.seq (.ops [mC 4 (.int .i64 (-1))])
 .ret))) }
def C.slices_IndexFunc_s_api_MeanVal_api_MeanVal : LFunc := { np := 2,res := [.tmp 4],keep := false,body :=
 (.seq (.ops [mC 4 (.int .i64 0)])
 (.seq (.seq (.ops [mT 6 0,lN 7 6,mC 8 (.int .i64 0)])
 (.block 0 (.loop (.seq (.ops [bN 9 .lss (.t 8) (.t 7)])
 (.seq (.cond (.t 9)
 .skip
 (.exit 0))
 (.seq (.block 1 (.seq (.ops [mT 10 8,mT 5 10])
 (.seq (.ops [mT 11 1,mT 12 0,mT 13 5,iA 14 2 12 13,lT 15 2 14,o 16 (.call (.t 11) [(.t 15)])])
 (.cond (.t 16)
 (.seq (.ops [mT 17 5,mT 4 17])
 .ret)
 .skip))))
 (.ops [bN 18 .add (.t 8) (cI 1),mT 8 18])))))))
 (.seq (.ops [mC 4 (.int .i64 (-1))])
 .ret))) }
def C.slices_ContainsFunc_s_api_MeanFrame_api_MeanFrame : LFunc := { np := 2,res := [.tmp 4],keep := false,body :=
 (.seq (.ops [mC 4 (.bool false)])
 (.seq (.ops [mT 5 0,mT 6 1,cL 7 F.slices_IndexFunc_s_api_MeanFrame_api_MeanFrame [(.t 5),(.t 6)],bN 8 .geq (.t 7) (cI 0),mT 4 8])
 .ret)) }
def C.mean_all_api_MeanFrame_c1 : LFunc := { np := 2,res := [.tmp 3],keep := false,body :=
 (.seq (.ops [bX 2 3 0,mC 3 (.bool false)])
 (.seq (.ops [l1 4 1,lT 5 3 2,o 6 (.call (.t 4) [(.t 5)]),nT 7 6,mT 3 7])
 .ret)) }
def C.slices_Clip_s_api_MeanObj_api_MeanObj : LFunc := { np := 1,res := [.tmp 2],keep := true,body :=
 (.seq (.ops [mC 2 (.cl [])])
 (.seq (.ops [mT 3 0,mT 4 0,lN 5 4,mT 6 0,lN 7 6,o 8 (.slice false 4 (.t 3) none (some (.t 5)) (some (.t 7))),mT 2 8])
 .ret)) }
def C.mean_turner_object : LFunc := { np := 3,res := [.cell 6 true 4,.tmp 7],keep := false,body :=
 (.seq (.ops [bX 4 2 1,o 6 (.alloc [(.int .i64 0),(.int .i64 0),(.cl []),(.cl [])]),mC 7 (.bool false)])
 (.seq (.seq (.draw [fA 8 0 4,l1 9 8,bN 10 .neq (.t 9) (cI 5),mT 11 10,gM 12 11 false 0,og 13 11 false (.nilck (.t 12)),gF 14 11 false 0 13,g1 15 11 false 14,
 og 16 11 false (.nilck (.t 15)),gF 17 11 false 4 16,gF 18 11 false 0 17,g1 19 11 false 18,gF 20 11 false 1 4,g1 21 11 false 20,og 22 11 false (.ia 4 (.t 19) (.t 21)),
 gF 23 11 false 0 22,g1 24 11 false 23,gM 25 11 false 2,gB 26 11 false .neq (.t 24) (.t 25),pO 27 11 26]
 [])
 (.cond (.t 27)
 (.seq (.ops [o 28 (.build [(.int .i64 0),(.int .i64 0),(.cl []),(.cl [])] []),sT 4 6 28,mC 7 (.bool false)])
 .ret)
 .skip))
 (.seq (.draw [mT 29 0,nK 30 29,fA 31 0 30,l1 32 31,nK 33 32,fA 34 4 33,fA 35 0 34,l1 36 35,fA 37 1 4,l1 38 37,iA 39 4 36 38,lT 40 4 39,sT 4 6 40,mC 7 (.bool true)]
 [])
 .ret))) }
def C.R02_signs : LFunc := { np := 0,res := [.tmp 0],keep := false,body :=
 (.seq (.ops [mC 0 (.cl [])])
 (.seq (.ops [o 1 (.bslice 18 1 [(.str ⟨#[]⟩)] [(0,(.c (.str ⟨#[61,62]⟩))),(1,(.c (.str ⟨#[61,61]⟩))),(2,(.c (.str ⟨#[45,62]⟩))),(3,(.c (.str ⟨#[61]⟩))),(4,(.c (.str ⟨#[60]⟩))),(5,(.c (.str ⟨#[43]⟩))),(6,(.c (.str ⟨#[45]⟩))),(7,(.c (.str ⟨#[42]⟩))),(8,(.c (.str ⟨#[40]⟩))),(9,(.c (.str ⟨#[41]⟩))),(10,(.c (.str ⟨#[123]⟩))),(11,(.c (.str ⟨#[125]⟩))),(12,(.c (.str ⟨#[124]⟩))),(13,(.c (.str ⟨#[44]⟩))),(14,(.c (.str ⟨#[59]⟩))),(15,(.c (.str ⟨#[58]⟩))),(16,(.c (.str ⟨#[95]⟩))),(17,(.c (.str ⟨#[63]⟩)))]),
 mT 0 1])
 .ret)) }
def C.R02_reader_applied : LFunc := { np := 1,res := [.cell 2 true 5],keep := false,body :=
 (.seq (.ops [o 2 (.alloc [(.int .i64 0),(.int .i64 0),(.str ⟨#[]⟩),(.cl []),(.cl [])])])
 (.seq (.ops [mT 5 0,o 6 (.icall (.f F.R02_reader_atom) [(.t 5)]),o 3 (.alloc [(.int .i64 0),(.int .i64 0),(.str ⟨#[]⟩),(.cl []),(.cl [])]),sT 5 3 6])
 (.seq (.block 0 (.loop (.seq (.seq (.ops [mT 7 0,o 8 (.icall (.f F.R02_reader_begins) [(.t 7)])])
 (.cond (.t 8)
 .skip
 (.exit 0)))
 (.block 1 (.seq (.ops [mT 9 0,o 10 (.icall (.f F.R02_reader_atom) [(.t 9)]),o 4 (.alloc [(.int .i64 0),(.int .i64 0),(.str ⟨#[]⟩),(.cl []),(.cl [])]),sT 5 4 10])
 (.ops [lT 11 5 3,lT 12 5 4,cL 13 F.R02_two [(cI 6),(.t 11),(.t 12)],sT 5 3 13]))))))
 (.seq (.ops [lT 14 5 3,sT 5 2 14])
 .ret)))) }
def C.slices_IndexFunc_s_api_TermPat_api_TermPat : LFunc := { np := 2,res := [.tmp 4],keep := false,body :=
 (.seq (.ops [mC 4 (.int .i64 0)])
 (.seq (.seq (.ops [mT 6 0,lN 7 6,mC 8 (.int .i64 0)])
 (.block 0 (.loop (.seq (.ops [bN 9 .lss (.t 8) (.t 7)])
 (.seq (.cond (.t 9)
 .skip
 (.exit 0))
 (.seq (.block 1 (.seq (.ops [mT 10 8,mT 5 10])
 (.seq (.ops [mT 11 1,mT 12 0,mT 13 5,iA 14 4 12 13,lT 15 4 14,o 16 (.call (.t 11) [(.t 15)])])
 (.cond (.t 16)
 (.seq (.ops [mT 17 5,mT 4 17])
 .ret)
 .skip))))
 (.ops [bN 18 .add (.t 8) (cI 1),mT 8 18])))))))
 (.seq (.ops [mC 4 (.int .i64 (-1))])
 .ret))) }
def C.slices_IndexFunc_s_api_MeanFrame_api_MeanFrame : LFunc := { np := 2,res := [.tmp 4],keep := false,body :=
 (.seq (.ops [mC 4 (.int .i64 0)])
 (.seq (.seq (.ops [mT 6 0,lN 7 6,mC 8 (.int .i64 0)])
 (.block 0 (.loop (.seq (.ops [bN 9 .lss (.t 8) (.t 7)])
 (.seq (.cond (.t 9)
 .skip
 (.exit 0))
 (.seq (.block 1 (.seq (.ops [mT 10 8,mT 5 10])
 (.seq (.ops [mT 11 1,mT 12 0,mT 13 5,iA 14 3 12 13,lT 15 3 14,o 16 (.call (.t 11) [(.t 15)])])
 (.cond (.t 16)
 (.seq (.ops [mT 17 5,mT 4 17])
 .ret)
 .skip))))
 (.ops [bN 18 .add (.t 8) (cI 1),mT 8 18])))))))
 (.seq (.ops [mC 4 (.int .i64 (-1))])
 .ret))) }
def C.R02_reader_atom : LFunc := { np := 1,res := [.cell 2 true 5],keep := false,body :=
 (.seq (.ops [o 2 (.alloc [(.int .i64 0),(.int .i64 0),(.str ⟨#[]⟩),(.cl []),(.cl [])])])
 (.seq (.block 0 (.seq (.ops [mT 6 0,o 7 (.icall (.f F.R02_reader_is) [(.t 6),(cI 4)]),mT 5 7])
 (.cond (.t 5)
 (.seq (.ops [mT 8 0,o 9 (.icall (.f F.R02_reader_take) [(.t 8),(cI 4)]),o 10 (.fld false 2 1 (.t 9)),
 o 11 (.build [(.int .i64 0),(.int .i64 0),(.str ⟨#[]⟩),(.cl []),(.cl [])] [(0,1,(cI 1)),(1,1,(.t 10))]),sT 5 2 11])
 .ret)
 (.seq (.ops [mT 13 0,o 14 (.icall (.f F.R02_reader_is) [(.t 13),(cI 1)]),mT 12 14])
 (.cond (.t 12)
 (.seq (.ops [mT 15 0,o 16 (.icall (.f F.R02_reader_take) [(.t 15),(cI 1)]),o 17 (.fld false 1 1 (.t 16)),
 o 18 (.build [(.int .i64 0),(.int .i64 0),(.str ⟨#[]⟩),(.cl []),(.cl [])] [(0,1,(cI 4)),(2,1,(.t 17))]),sT 5 2 18])
 .ret)
 (.seq (.ops [mT 20 0,o 21 (.icall (.f F.R02_reader_is) [(.t 20),(cI 2)]),mT 19 21])
 (.cond (.t 19)
 (.seq (.ops [mT 22 0,o 23 (.icall (.f F.R02_reader_take) [(.t 22),(cI 2)]),o 24 (.fld false 1 1 (.t 23)),
 o 25 (.build [(.int .i64 0),(.int .i64 0),(.str ⟨#[]⟩),(.cl []),(.cl [])] [(0,1,(cI 14)),(2,1,(.t 24))]),
 o 3 (.alloc [(.int .i64 0),(.int .i64 0),(.str ⟨#[]⟩),(.cl []),(.cl [])]),sT 5 3 25])
 (.seq (.seq (.ops [mT 26 0,o 27 (.icall (.f F.R02_reader_sees) [(.t 26),(.c (.str ⟨#[40]⟩))])])
 (.cond (.t 27)
 (.ops [mT 28 0,o 29 (.icall (.f F.R02_reader_terms) [(.t 28),(cI (-1))]),fA 30 3 3,sT 1 30 29])
 .skip))
 (.seq (.ops [lT 31 5 3,sT 5 2 31])
 .ret)))
 (.seq (.ops [mT 33 0,o 34 (.icall (.f F.R02_reader_has) [(.t 33),(.c (.str ⟨#[116,114,117,101]⟩))]),mT 32 34])
 (.cond (.t 32)
 (.seq (.ops [o 35 (.build [(.int .i64 0),(.int .i64 0),(.str ⟨#[]⟩),(.cl []),(.cl [])] [(0,1,(cI 2)),(1,1,(cI 1))]),sT 5 2 35])
 .ret)
 (.seq (.ops [mT 37 0,o 38 (.icall (.f F.R02_reader_has) [(.t 37),(.c (.str ⟨#[102,97,108,115,101]⟩))]),mT 36 38])
 (.cond (.t 36)
 (.seq (.ops [o 39 (.build [(.int .i64 0),(.int .i64 0),(.str ⟨#[]⟩),(.cl []),(.cl [])] [(0,1,(cI 2))]),sT 5 2 39])
 .ret)
 (.seq (.ops [mT 41 0,o 42 (.icall (.f F.R02_reader_has) [(.t 41),(.c (.str ⟨#[109,97,116,99,104]⟩))]),mT 40 42])
 (.cond (.t 40)
 (.seq (.ops [mT 43 0,o 44 (.icall (.f F.R02_reader_cases) [(.t 43)]),sT 5 2 44])
 .ret)
 (.seq (.ops [mT 46 0,o 47 (.icall (.f F.R02_reader_has) [(.t 46),(.c (.str ⟨#[40]⟩))]),mT 45 47])
 (.cond (.t 45)
 (.seq (.seq (.ops [mT 48 0,o 49 (.icall (.f F.R02_reader_has) [(.t 48),(.c (.str ⟨#[41]⟩))])])
 (.cond (.t 49)
 (.seq (.ops [o 50 (.build [(.int .i64 0),(.int .i64 0),(.str ⟨#[]⟩),(.cl []),(.cl [])] [(0,1,(cI 3))]),sT 5 2 50])
 .ret)
 .skip))
 (.seq (.ops [mT 51 0,o 52 (.icall (.f F.R02_reader_term) [(.t 51)]),o 4 (.alloc [(.int .i64 0),(.int .i64 0),(.str ⟨#[]⟩),(.cl []),(.cl [])]),sT 5 4 52])
 (.seq (.ops [mT 53 0,o 54 (.icall (.f F.R02_reader_want) [(.t 53),(.c (.str ⟨#[41]⟩))])])
 (.seq (.ops [lT 55 5 4,sT 5 2 55])
 .ret))))
 (.seq (.ops [mT 57 0,o 58 (.icall (.f F.R02_reader_is) [(.t 57),(cI 3)]),mT 56 58])
 (.cond (.t 56)
 (.seq (.ops [mT 59 0,o 60 (.icall (.f F.R02_reader_call) [(.t 59)]),sT 5 2 60])
 .ret)
 .skip)))))))))))))))))
 (.seq (.ops [mT 61 0,nK 62 61,fA 63 2 62,on (.store 1 (.t 63) (cB true))])
 (.seq (.ops [o 64 (.build [(.int .i64 0),(.int .i64 0),(.str ⟨#[]⟩),(.cl []),(.cl [])] []),sT 5 2 64])
 .ret)))) }
def C.R02_reader_begins : LFunc := { np := 1,res := [.tmp 2],keep := false,body :=
 (.seq (.ops [mC 2 (.bool false)])
 (.seq (.seq (.draw [mT 6 0,nK 7 6,fA 8 2 7,l1 9 8,mT 10 9,gM 11 10 false 0,og 12 10 false (.nilck (.t 11)),gF 13 10 false 1 12,g1 14 10 false 13,gM 15 10 false 0,
 og 16 10 false (.nilck (.t 15)),gF 17 10 false 0 16,g1 18 10 false 17,gN 19 10 false 18,gB 20 10 false .geq (.t 14) (.t 19),pO 21 10 20]
 [])
 (.cond (.t 21)
 (.seq (.ops [mC 2 (.bool false)])
 .ret)
 .skip))
 (.seq (.draw [mT 22 0,nK 23 22,fA 24 0 23,l1 25 24,mT 26 0,nK 27 26,fA 28 1 27,l1 29 28,iA 30 4 25 29,lT 31 4 30,
 o 3 (.alloc [(.int .i64 0),(.str ⟨#[]⟩),(.int .i64 0),(.int .i64 0)]),sT 4 3 31]
 [(3,10),(7,10),(8,10),(9,10)])
 (.seq (.seq (.ops [fA 32 0 3,l1 33 32,bN 34 .eql (.t 33) (cI 3)])
 (.cond (.t 34)
 (.seq (.ops [fA 36 1 3,l1 37 36,cL 38 F.R02_called [(.t 37)],mT 35 38,o 39 (.ext 0 (.t 35)),o 40 (.ext 1 (.t 35)),mT 4 39,mT 5 40])
 (.seq (.ops [mT 41 4,bN 42 .neq (.t 41) (cI 0),mT 43 42,gF 44 43 false 1 3,g1 45 43 false 44,og 46 43 false (.bin .eql .str (.t 45) (.c (.str ⟨#[116,114,117,101]⟩))),
 pO 47 43 46,mT 48 47,gF 49 48 false 1 3,g1 50 48 false 49,og 51 48 false (.bin .eql .str (.t 50) (.c (.str ⟨#[102,97,108,115,101]⟩))),pO 52 48 51,mT 53 52,
 gF 54 53 false 1 3,g1 55 53 false 54,og 56 53 false (.bin .eql .str (.t 55) (.c (.str ⟨#[109,97,116,99,104]⟩))),pO 57 53 56,mT 2 57])
 .ret))
 .skip))
 (.seq (.ops [fA 58 0 3,l1 59 58,bN 60 .neq (.t 59) (cI 5),mT 61 60,gF 62 61 false 1 3,g1 63 61 false 62,og 64 61 false (.bin .eql .str (.t 63) (.c (.str ⟨#[40]⟩))),
 pO 65 61 64,mT 2 65])
 .ret))))) }
def C.R02_reader_terms : LFunc := { np := 2,res := [.tmp 4],keep := false,body :=
 (.seq (.ops [mC 4 (.cl [])])
 (.seq (.ops [mT 8 0,o 9 (.icall (.f F.R02_reader_want) [(.t 8),(.c (.str ⟨#[40]⟩))])])
 (.seq (.ops [mT 10 0,o 11 (.icall (.f F.R02_reader_term) [(.t 10)]),o 5 (.alloc [(.int .i64 0),(.int .i64 0),(.str ⟨#[]⟩),(.cl []),(.cl [])]),sT 5 5 11])
 (.seq (.ops [lT 12 5 5,o 13 (.bslice 1 5 [(.int .i64 0),(.int .i64 0),(.str ⟨#[]⟩),(.cl []),(.cl [])] [(0,(.t 12))]),mT 6 13])
 (.seq (.block 0 (.loop (.seq (.seq (.ops [mT 14 1,bN 15 .lss (.t 14) (cI 0),mT 16 15,gM 17 16 true 0,
 og 18 16 true (.icall (.f F.R02_reader_has) [(.t 17),(.c (.str ⟨#[44]⟩))]),pA 19 16 18,mT 20 19,gM 21 20 false 1,gM 22 20 false 6,gN 23 20 false 22,
 gB 24 20 false .gtr (.t 21) (.t 23),gM 25 20 false 24,gM 26 25 true 0,og 27 25 true (.nilck (.t 26)),gF 28 25 true 2 27,g1 29 25 true 28,
 og 30 25 true (.un .not (.t 29)),og 31 20 false (.pick (.t 25) (.t 30) (cB false)),pO 32 20 31])
 (.cond (.t 32)
 .skip
 (.exit 0)))
 (.block 1 (.seq (.seq (.ops [mT 33 1,bN 34 .gtr (.t 33) (cI 0)])
 (.cond (.t 34)
 (.ops [mT 35 0,o 36 (.icall (.f F.R02_reader_want) [(.t 35),(.c (.str ⟨#[44]⟩))])])
 .skip))
 (.seq (.ops [mT 37 0,o 38 (.icall (.f F.R02_reader_term) [(.t 37)]),o 7 (.alloc [(.int .i64 0),(.int .i64 0),(.str ⟨#[]⟩),(.cl []),(.cl [])]),sT 5 7 38])
 (.ops [mT 39 6,lT 40 5 7,o 41 (.bslice 1 5 [(.int .i64 0),(.int .i64 0),(.str ⟨#[]⟩),(.cl []),(.cl [])] [(0,(.t 40))]),o 42 (.append 5 (.t 39) (.t 41)),mT 6 42])))))))
 (.seq (.ops [mT 43 0,o 44 (.icall (.f F.R02_reader_want) [(.t 43),(.c (.str ⟨#[41]⟩))])])
 (.seq (.ops [mT 45 6,mT 4 45])
 .ret))))))) }
def C.R02_reader_call : LFunc := { np := 1,res := [.cell 2 true 5],keep := false,body :=
 (.seq (.ops [o 2 (.alloc [(.int .i64 0),(.int .i64 0),(.str ⟨#[]⟩),(.cl []),(.cl [])])])
 (.seq (.draw [mT 8 0,nK 9 8,fA 10 0 9,l1 11 10,mT 12 0,nK 13 12,fA 14 1 13,l1 15 14,iA 16 4 11 15,fA 17 1 16,l1 18 17,cL 19 F.R02_called [(.t 18)],mT 7 19,
 o 20 (.ext 0 (.t 7)),o 21 (.ext 1 (.t 7)),mT 3 20,mT 4 21]
 [])
 (.seq (.seq (.ops [mT 22 3,bN 23 .eql (.t 22) (cI 0)])
 (.cond (.t 23)
 (.seq (.ops [mT 24 0,nK 25 24,fA 26 2 25,on (.store 1 (.t 26) (cB true))])
 (.seq (.ops [o 27 (.build [(.int .i64 0),(.int .i64 0),(.str ⟨#[]⟩),(.cl []),(.cl [])] []),sT 5 2 27])
 .ret))
 .skip))
 (.seq (.ops [mT 28 0,nK 29 28,fA 30 1 29,l1 31 30,bN 32 .add (.t 31) (cI 1),nK 33 28,fA 34 1 33,sT 1 34 32])
 (.seq (.ops [mT 35 3,o 36 (.build [(.int .i64 0),(.int .i64 0),(.str ⟨#[]⟩),(.cl []),(.cl [])] [(0,1,(.t 35))]),
 o 5 (.alloc [(.int .i64 0),(.int .i64 0),(.str ⟨#[]⟩),(.cl []),(.cl [])]),sT 5 5 36])
 (.seq (.seq (.ops [mT 37 4,bN 38 .gtr (.t 37) (cI 0)])
 (.cond (.t 38)
 (.ops [mT 39 0,mT 40 4,o 41 (.icall (.f F.R02_reader_terms) [(.t 39),(.t 40)]),fA 42 3 5,sT 1 42 41])
 (.seq (.ops [mT 43 4,bN 44 .lss (.t 43) (cI 0)])
 (.cond (.t 44)
 (.seq (.ops [mT 45 0,o 46 (.icall (.f F.R02_reader_want) [(.t 45),(.c (.str ⟨#[40]⟩))])])
 (.seq (.ops [mT 47 0,o 48 (.icall (.f F.R02_reader_take) [(.t 47),(cI 4)]),o 49 (.fld false 2 1 (.t 48)),fA 50 1 5,sT 1 50 49])
 (.seq (.ops [mT 51 0,o 52 (.icall (.f F.R02_reader_want) [(.t 51),(.c (.str ⟨#[44]⟩))])])
 (.seq (.ops [mT 53 0,o 54 (.icall (.f F.R02_reader_term) [(.t 53)]),o 6 (.alloc [(.int .i64 0),(.int .i64 0),(.str ⟨#[]⟩),(.cl []),(.cl [])]),sT 5 6 54])
 (.seq (.ops [mT 55 0,o 56 (.icall (.f F.R02_reader_want) [(.t 55),(.c (.str ⟨#[41]⟩))])])
 (.ops [lT 57 5 6,o 58 (.bslice 1 5 [(.int .i64 0),(.int .i64 0),(.str ⟨#[]⟩),(.cl []),(.cl [])] [(0,(.t 57))]),fA 59 3 5,sT 1 59 58]))))))
 .skip))))
 (.seq (.ops [lT 60 5 5,sT 5 2 60])
 .ret))))))) }
def C.R02_called : LFunc := { np := 1,res := [.tmp 2,.tmp 3],keep := false,body :=
 (.seq (.ops [mC 2 (.int .i64 0),mC 3 (.int .i64 0)])
 (.seq (.seq (.ops [mT 4 0])
 (.block 0 (.seq (.ops [o 6 (.bin .eql .str (.t 4) (.c (.str ⟨#[99,101,108,108]⟩))),mT 5 6])
 (.cond (.t 5)
 (.seq (.ops [mC 2 (.int .i64 16),mC 3 (.int .i64 1)])
 .ret)
 (.seq (.ops [o 8 (.bin .eql .str (.t 4) (.c (.str ⟨#[103,101,116]⟩))),mT 7 8])
 (.cond (.t 7)
 (.seq (.ops [mC 2 (.int .i64 17),mC 3 (.int .i64 1)])
 .ret)
 (.seq (.ops [o 10 (.bin .eql .str (.t 4) (.c (.str ⟨#[112,117,116]⟩))),mT 9 10])
 (.cond (.t 9)
 (.seq (.ops [mC 2 (.int .i64 18),mC 3 (.int .i64 2)])
 .ret)
 (.seq (.ops [o 12 (.bin .eql .str (.t 4) (.c (.str ⟨#[115,112,97,119,110]⟩))),mT 11 12])
 (.cond (.t 11)
 (.seq (.ops [mC 2 (.int .i64 19),mC 3 (.int .i64 1)])
 .ret)
 (.seq (.ops [o 14 (.bin .eql .str (.t 4) (.c (.str ⟨#[106,111,105,110]⟩))),mT 13 14])
 (.cond (.t 13)
 (.seq (.ops [mC 2 (.int .i64 20),mC 3 (.int .i64 1)])
 .ret)
 (.seq (.ops [o 16 (.bin .eql .str (.t 4) (.c (.str ⟨#[99,104,97,110]⟩))),mT 15 16])
 (.cond (.t 15)
 (.seq (.ops [mC 2 (.int .i64 21),mC 3 (.int .i64 0)])
 .ret)
 (.seq (.ops [o 18 (.bin .eql .str (.t 4) (.c (.str ⟨#[115,101,110,100]⟩))),mT 17 18])
 (.cond (.t 17)
 (.seq (.ops [mC 2 (.int .i64 22),mC 3 (.int .i64 2)])
 .ret)
 (.seq (.ops [o 20 (.bin .eql .str (.t 4) (.c (.str ⟨#[116,97,107,101]⟩))),mT 19 20])
 (.cond (.t 19)
 (.seq (.ops [mC 2 (.int .i64 23),mC 3 (.int .i64 1)])
 .ret)
 (.seq (.ops [o 22 (.bin .eql .str (.t 4) (.c (.str ⟨#[111,117,116]⟩))),mT 21 22])
 (.cond (.t 21)
 (.seq (.ops [mC 2 (.int .i64 24),mC 3 (.int .i64 (-1))])
 .ret)
 (.seq (.ops [o 24 (.bin .eql .str (.t 4) (.c (.str ⟨#[105,110,112,117,116]⟩))),mT 23 24])
 (.cond (.t 23)
 (.seq (.ops [mC 2 (.int .i64 25),mC 3 (.int .i64 0)])
 .ret)
 (.seq (.ops [o 26 (.bin .eql .str (.t 4) (.c (.str ⟨#[114,101,115,101,116]⟩))),mT 25 26])
 (.cond (.t 25)
 (.seq (.ops [mC 2 (.int .i64 26),mC 3 (.int .i64 1)])
 .ret)
 (.seq (.ops [o 28 (.bin .eql .str (.t 4) (.c (.str ⟨#[112,97,117,115,101]⟩))),mT 27 28])
 (.cond (.t 27)
 (.seq (.ops [mC 2 (.int .i64 28),mC 3 (.int .i64 0)])
 .ret)
 .skip))))))))))))))))))))))))))
 (.seq (.ops [mC 2 (.int .i64 0),mC 3 (.int .i64 0)])
 .ret))) }
def C.past_cellHas_holds : LFunc := { np := 2,res := [.tmp 4],keep := false,body :=
 (.seq (.ops [bX 2 3 0,bX 3 5 1,mC 4 (.bool false)])
 (.seq (.draw [fA 5 0 2,l1 6 5,bN 7 .geq (.t 6) (cI 0),mT 8 7,gF 9 8 true 0 2,g1 10 8 true 9,gF 11 8 true 0 3,g1 12 8 true 11,gN 13 8 true 12,
 gB 14 8 true .lss (.t 10) (.t 13),pA 15 8 14,mT 16 15,gF 17 16 true 0 3,g1 18 16 true 17,gF 19 16 true 0 2,g1 20 16 true 19,og 21 16 true (.ia 4 (.t 18) (.t 20)),
 gF 22 16 true 0 21,g1 23 16 true 22,gB 24 16 true .eql (.t 23) (cI 3),pA 25 16 24,mT 26 25,gF 27 26 true 0 3,g1 28 26 true 27,gF 29 26 true 0 2,g1 30 26 true 29,
 og 31 26 true (.ia 4 (.t 28) (.t 30)),gF 32 26 true 2 31,g1 33 26 true 32,og 34 26 true (.ia 2 (.t 33) (cI 0)),gT 35 26 true 2 34,gF 36 26 true 1 2,gT 37 26 true 2 36,
 og 38 26 true (.bin .eql (.agg [.num,.num]) (.t 35) (.t 37)),pA 39 26 38,mT 4 39]
 [])
 .ret)) }
def C.mean_does_event : LFunc := { np := 1,res := [.cell 2 true 5],keep := false,body :=
 (.seq (.ops [bX 1 5 0,o 2 (.alloc [(.int .i64 0),(.int .i64 0),(.int .i64 0),(.int .i64 0),(.int .i64 0)])])
 (.seq (.ops [fA 3 0 1,lT 4 5 3,sT 5 2 4])
 .ret)) }
def C.bind_fixed_fine : LFunc := { np := 3,res := [.tmp 6],keep := false,body :=
 (.seq (.ops [bX 4 4 1,bX 5 4 2,mC 6 (.bool false)])
 (.seq (.ops [fA 7 2 5,l1 8 7,lN 9 8,mT 10 0,bN 11 .eql (.t 9) (.t 10),mT 6 11])
 .ret)) }
def tbl : List (Nat × LFunc) := [(7,C.W23_PastKnown),(10,C.W23_known),(11,C.past_Verify),(12,C.R23_Log),(14,C.past_At),(15,C.past_Events),(16,C.past_Inside),(25,C.past_Touched),(26,C.past_Writer),(29,C.past_Sender),(30,C.past_Reader),(31,C.past_Born),(33,C.past_Find),(37,C.past_Begin),(38,C.R05_Formed),(39,C.R06_World),(42,C.past_Check),(43,C.past_Add),(50,C.W23_P),(51,C.W23_A),(52,C.R06_Int),(53,C.past_caught),(55,C.past_played),(56,C.past_player_wrong),(57,C.R23_in),(58,C.R06_Settle),(61,C.past_must),(62,C.past_copied),(63,C.past_player_at),(65,C.past_player_turns),(66,C.past_Inside_c1),(67,C.past_player_one),(68,C.past_player_plain),(69,C.mean_Step),(76,C.R06_Step),(79,C.past_player_object),(82,C.past_player_first),(83,C.past_Sender_c2),(85,C.past_Reader_c2),(87,C.past_Born_c2),(90,C.past_when),(91,C.past_player_worlds),(95,C.mean_Check),(96,C.mean_Settle),(97,C.R05_in),(98,C.R05_cons),(99,C.R05_node),(100,C.R06_Ints),(101,C.R06_in),(102,C.R06_tasks),(103,C.R06_object),(105,C.past_player_turn),(106,C.past_copies),(107,C.past_player_marked),(110,C.R02_ParseModule),(111,C.R05_Bind),(112,C.R06_Start),(114,C.past_same),(115,C.slices_Clone_s_int_int),(116,C.slices_Clone_s_api_MeanOut_api_MeanOut),(117,C.slices_Clone_s_api_MeanVal_api_MeanVal),(118,C.past_player_turns_c1),(119,C.mean_running),(120,C.mean_within),(121,C.mean_runner_step),(122,C.mean_rank),(123,C.mean_runner_copied),(126,C.R06_set),(127,C.R06_Masked),(128,C.R06_more),(129,C.R06_Asks),(130,C.R06_onto),(131,C.R06_does),(133,C.past_player_worlds_c1),(134,C.mean_runner_settle),(136,C.R01_Differ),(139,C.R05_kids),(140,C.R06_listed),(141,C.R06_task),(142,C.R06_frames),(143,C.R06_Open),(144,C.R06_values),(145,C.mean_Turn),(147,C.R02_read),(148,C.R02_reader_module),(149,C.R02_reader_whole),(150,C.R01_Module),(151,C.R05_functions),(152,C.R05_constructors),(153,C.R05_names),(154,C.R01_Has),(155,C.R05_binder_known),(156,C.R05_place),(157,C.R05_binder_put),(158,C.R06_First),(159,C.past_same_c1),(160,C.slices_Equal_s_api_MeanVal_api_MeanVal),(161,C.past_same_c2),(162,C.slices_EqualFunc_s_api_MeanFrame__api_MeanFrame_api_MeanFrame_api_MeanFrame),(163,C.slices_EqualFunc_s_api_MeanObj__api_MeanObj_api_MeanObj_api_MeanObj),(164,C.slices_Equal_s_int_int),(165,C.slices_Equal_s_api_MeanOut_api_MeanOut),(166,C.bind_Check),(167,C.mean_runner_world),(168,C.mean_runner_finish),(169,C.mean_masked),(170,C.mean_runner_step_c1),(172,C.mean_turner_made),(173,C.mean_mapped),(174,C.mean_runner_copied_c1),(175,C.R06_Copy),(176,C.R06_Ref),(178,C.R06_back),(180,C.R06_Unit),(181,C.R06_made),(186,C.R06_celled),(189,C.R06_event),(192,C.R01_small),(193,C.R06_value),(194,C.mean_runner_turn),(195,C.R02_Tokens),(196,C.R02_reader_want),(197,C.R02_reader_take),(198,C.R02_reader_has),(200,C.R02_reader_function),(201,C.R01_Name),(202,C.R01_in),(204,C.R01_Whole),(205,C.R01_Term),(208,C.R05_within),(209,C.R01_Binds),(211,C.bind_program_formed),(212,C.mean_all_api_MeanObj),(213,C.mean_runner_object),(214,C.mean_runner_tasks),(215,C.mean_all_api_MeanOut),(216,C.mean_runner_world_c1),(217,C.mean_integer),(218,C.mean_inputs),(219,C.slices_Clone_s_api_MeanObj_api_MeanObj),(220,C.mean_turner_push),(221,C.slices_Clip_s_api_MeanVal_api_MeanVal),(222,C.mean_asks),(223,C.mean_turner_goes),(224,C.mean_operations),(225,C.mean_mapped_c1),(226,C.slices_Clone_s_api_MeanFrame_api_MeanFrame),(230,C.mean_runner_ready),(231,C.R02_List),(232,C.R02_reader_is),(233,C.R02_reader_sees),(234,C.R02_reader_kind),(235,C.R02_reader_term),(236,C.R01_Key),(237,C.R01_WeighType),(238,C.R01_sorts),(239,C.R01_Weigh),(240,C.R01_nodes),(242,C.bind_in),(243,C.bind_every_api_BindCon),(245,C.bind_differ),(246,C.bind_mapped_api_BindCon_string),(248,C.bind_every_api_BindNode),(249,C.bind_program_node),(250,C.bind_every_int),(251,C.bind_program_formed_c2),(252,C.slices_ContainsFunc_s_api_MeanObj_api_MeanObj),(253,C.mean_all_api_MeanObj_c1),(254,C.mean_all_api_MeanVal),(255,C.mean_runner_value),(256,C.mean_runner_frames),(257,C.mean_runner_task),(258,C.mean_all_int),(259,C.slices_Collect_int),(260,C.mean_numbers),(261,C.mean_runner_tasks_c1),(262,C.slices_ContainsFunc_s_api_MeanOut_api_MeanOut),(263,C.mean_all_api_MeanOut_c1),(264,C.mean_must),(265,C.slices_Clip_s_api_MeanFrame_api_MeanFrame),(266,C.mean_turner_constant),(267,C.mean_turner_name),(270,C.mean_turner_let),(272,C.mean_turner_sum),(277,C.mean_turner_cell),(278,C.mean_turner_get),(279,C.mean_turner_put),(285,C.mean_turner_out),(286,C.mean_turner_input),(290,C.mean_runner_next),(291,C.R02_skipped),(292,C.R02_next),(293,C.R02_reader_simple),(295,C.R02_reader_sum),(296,C.R02_two),(297,C.R01_keywords),(298,C.R01_node),(300,C.slices_ContainsFunc_s_api_BindCon_api_BindCon),(303,C.slices_ContainsFunc_s_api_BindNode_api_BindNode),(304,C.bind_every_api_BindNode_c1),(305,C.bind_kidsOf),(309,C.bind_program_number),(310,C.bind_every_api_TermPat),(311,C.slices_ContainsFunc_s_int_int),(312,C.bind_every_int_c1),(313,C.slices_IndexFunc_s_api_MeanObj_api_MeanObj),(314,C.slices_ContainsFunc_s_api_MeanVal_api_MeanVal),(315,C.mean_all_api_MeanVal_c1),(316,C.mean_all_api_MeanFrame),(317,C.mean_runner_frame),(318,C.mean_runner_open),(319,C.mean_all_int_c1),(320,C.slices_AppendSeq_s_int_int),(321,C.mean_numbers_c1),(322,C.slices_IndexFunc_s_api_MeanOut_api_MeanOut),(323,C.mean_turner_comes),(324,C.mean_number),(326,C.mean_unit),(327,C.mean_turner_create),(329,C.mean_turner_want),(330,C.mean_with),(331,C.mean_turner_ints),(333,C.mean_turner_acts),(334,C.mean_turner_change),(336,C.slices_Clip_s_api_MeanOut_api_MeanOut),(337,C.R02_letter),(338,C.R02_run),(339,C.R02_great),(340,C.R02_digit),(341,C.R02_integer),(342,C.R02_number),(343,C.R02_sign),(345,C.R02_reader_product),(346,C.R01_spare),(348,C.slices_IndexFunc_s_api_BindCon_api_BindCon),(350,C.slices_IndexFunc_s_api_BindNode_api_BindNode),(351,C.bind_integer),(352,C.slices_ContainsFunc_s_api_TermPat_api_TermPat),(354,C.slices_IndexFunc_s_int_int),(355,C.slices_IndexFunc_s_api_MeanVal_api_MeanVal),(356,C.slices_ContainsFunc_s_api_MeanFrame_api_MeanFrame),(357,C.mean_all_api_MeanFrame_c1),(358,C.slices_Clip_s_api_MeanObj_api_MeanObj),(359,C.mean_turner_object),(360,C.R02_signs),(361,C.R02_reader_applied),(362,C.slices_IndexFunc_s_api_TermPat_api_TermPat),(363,C.slices_IndexFunc_s_api_MeanFrame_api_MeanFrame),(364,C.R02_reader_atom),(365,C.R02_reader_begins),(366,C.R02_reader_terms),(368,C.R02_reader_call),(369,C.R02_called),(386,C.past_cellHas_holds),(391,C.mean_does_event),(394,C.bind_fixed_fine)]
def L : Prog := fun f => tbl.lookup f
end Go.Proofs.YtmnchlhngpdffaaGreat
