/- What the functions of the program are for the interpreter. -/
import Derived.Test.YtmnchlhngpdffaaGreatRows
import Derived.Test.YtmnchlhngpdffaaGreatHxD
set_option linter.all false
namespace Go.Proofs.YtmnchlhngpdffaaGreat
open Go.Abs Go.Proofs
def cf (I:Operand->Bool)(k a:Bool):(Operand->Bool)×Bool×Bool:=(I,k,a)
noncomputable def bMc :List (Nat×((Operand->Bool)×Bool×Bool)):=[(11,cf (fun| .const (.int .i64 55)=>true|_=>false) false false),
 (14,cf (fun| .const (.int .i64 55)| .const (.int .i64 61)| .const (.int .i64 63)=>true|_=>false) false false),
 (15,cf (fun| .const (.int .i64 55)| .const (.int .i64 61)=>true|_=>false) false false),
 (16,cf (fun| .const (.int .i64 55)| .const (.int .i64 61)| .const (.int .i64 67)=>true|_=>false) false false),
 (25,cf (fun| .const (.int .i64 55)| .const (.int .i64 61)| .const (.int .i64 67)| .const (.int .i64 79)=>true|_=>false) false false),
 (26,cf (fun| .const (.int .i64 55)| .const (.int .i64 61)| .const (.int .i64 63)| .const (.int .i64 67)| .const (.int .i64 79)=>true|_=>false) false false),
 (29,cf (fun| .const (.int .i64 55)| .const (.int .i64 82)=>true|_=>false) false false),
 (30,cf (fun| .const (.int .i64 55)| .const (.int .i64 82)=>true|_=>false) false false),
 (31,cf (fun| .const (.int .i64 55)| .const (.int .i64 82)=>true|_=>false) false false),
 (33,cf (fun| .const (.int .i64 55)| .const (.int .i64 61)| .const (.int .i64 90)=>true|_=>false) false false),
 (37,cf (fun| .const (.int .i64 61)=>true|_=>false) false false),
 (43,cf (fun| .func 106| .const (.int .i64 55)| .const (.int .i64 61)| .const (.int .i64 63)| .const (.int .i64 105)=>true|_=>false) false false),
 (44,cf (fun| .const (.int .i64 55)| .const (.int .i64 61)=>true|_=>false) false false),(53,cf (fun| .tmp 13=>true|_=>false) false false),
 (55,cf (fun| .const (.int .i64 61)=>true|_=>false) false false),(67,cf (fun| .const (.int .i64 63)| .const (.int .i64 105)=>true|_=>false) false false),
 (69,cf (fun| .func 119| .func 121=>true|_=>false) false false),(79,cf (fun| .const (.int .i64 61)=>true|_=>false) false false),
 (82,cf (fun| .const (.int .i64 61)=>true|_=>false) false false),(90,cf (fun| .const (.int .i64 61)=>true|_=>false) false false),
 (96,cf (fun| .func 119| .func 134=>true|_=>false) false false),(105,cf (fun| .const (.int .i64 61)=>true|_=>false) false false),
 (110,cf (fun| .func 147| .func 148| .func 149=>true|_=>false) false false),(111,cf (fun| .func 155| .func 157=>true|_=>false) false false),
 (115,cf (fun _=>false) true true),(116,cf (fun _=>false) true true),(117,cf (fun _=>false) true true),
 (118,cf (fun| .tmp 52| .const (.int .i64 63)| .const (.int .i64 105)=>true|_=>false) false false),
 (121,cf (fun| .func 168| .func 172| .const (.int .i64 172)=>true|_=>false) false false),(126,cf (fun| .func 175=>true|_=>false) false false),
 (133,cf (fun| .tmp 57| .const (.int .i64 63)| .const (.int .i64 105)=>true|_=>false) false false),(134,cf (fun| .func 121=>true|_=>false) false false),
 (145,cf (fun| .func 119| .func 194=>true|_=>false) false false),
 (148,cf (fun| .func 196| .func 197| .func 198| .func 199| .func 200=>true|_=>false) false false),
 (155,cf (fun| .func 207| .func 155=>true|_=>false) false false),(157,cf (fun| .func 210| .const (.bool true)| .func 157=>true|_=>false) false false),
 (168,cf (fun| .const .nilFunc=>true|_=>false) false false),(170,cf (fun| .func 168=>true|_=>false) false false),
 (172,cf (fun| .func 220| .func 223| .tmp 102| .const (.int .i64 220)| .const (.int .i64 223)| .const .nilIface=>true|_=>false) false false),
 (178,cf (fun| .func 126=>true|_=>false) false false),(181,cf (fun| .func 175| .func 178=>true|_=>false) false false),
 (185,cf (fun| .func 175=>true|_=>false) false false),(187,cf (fun| .func 181=>true|_=>false) false false),
 (191,cf (fun| .func 175=>true|_=>false) false false),(194,cf (fun| .func 134| .func 121=>true|_=>false) false false),
 (196,cf (fun| .func 198=>true|_=>false) false false),(197,cf (fun| .func 232=>true|_=>false) false false),
 (198,cf (fun| .func 233=>true|_=>false) false false),(199,cf (fun| .func 197| .func 196| .func 198| .func 234=>true|_=>false) false false),
 (200,cf (fun| .func 197| .func 196| .func 234| .func 235=>true|_=>false) false false),(207,cf (fun| .func 207=>true|_=>false) false false),
 (210,cf (fun| .func 210=>true|_=>false) false false),(219,cf (fun _=>false) true true),
 (220,cf (fun| .const (.int .i64 264)| .const .nilFunc=>true|_=>false) false false),(221,cf (fun _=>false) true false),
 (223,cf (fun| .func 220| .const (.int .i64 220)=>true|_=>false) false false),(226,cf (fun _=>false) true true),(230,cf (fun _=>false) true false),
 (234,cf (fun| .func 293| .func 198| .func 234=>true|_=>false) false false),
 (235,cf (fun| .func 198| .func 294| .func 197| .func 196| .func 235| .func 295=>true|_=>false) false false),
 (259,cf (fun| .func 320=>true|_=>false) false false),(265,cf (fun _=>false) true false),(266,cf (fun| .func 323=>true|_=>false) false false),
 (267,cf (fun| .func 323| .const (.int .i64 264)=>true|_=>false) false false),
 (268,cf (fun| .func 327| .func 323| .const (.int .i64 327)=>true|_=>false) false false),
 (269,cf (fun| .func 328| .func 220| .func 329| .func 323| .const (.int .i64 328)| .const (.int .i64 220)| .const (.int .i64 329)=>true|_=>false) false false),
 (270,cf (fun| .func 223| .const (.int .i64 330)| .const (.int .i64 223)=>true|_=>false) false false),
 (271,cf (fun| .func 223| .const (.int .i64 264)| .const (.int .i64 223)=>true|_=>false) false false),
 (272,cf (fun| .func 331| .func 323| .const (.int .i64 331)| .const (.int .i64 264)=>true|_=>false) false false),
 (273,cf (fun| .func 331| .func 323| .const (.int .i64 331)=>true|_=>false) false false),
 (274,cf (fun| .func 323| .const (.int .i64 264)=>true|_=>false) false false),
 (275,cf (fun| .func 327| .func 323| .const (.int .i64 327)=>true|_=>false) false false),
 (276,cf (fun| .func 332| .func 223| .const (.int .i64 330)| .const (.int .i64 223)=>true|_=>false) false false),
 (277,cf (fun| .func 327| .func 333| .const (.int .i64 327)=>true|_=>false) false false),
 (278,cf (fun| .func 329| .func 333| .const (.int .i64 329)=>true|_=>false) false false),
 (279,cf (fun| .func 329| .func 334| .func 333| .const (.int .i64 329)=>true|_=>false) false false),
 (280,cf (fun| .func 328| .func 329| .func 327| .func 333| .const (.int .i64 328)| .const (.int .i64 329)| .const (.int .i64 327)| .const (.map none)=>true|_=>false) false false),
 (281,cf (fun| .func 329| .func 333| .const (.int .i64 329)=>true|_=>false) false false),
 (282,cf (fun| .func 327| .func 333| .const (.int .i64 327)=>true|_=>false) false false),
 (283,cf (fun| .func 329| .func 334| .func 333| .const (.int .i64 329)=>true|_=>false) false false),
 (284,cf (fun| .func 329| .func 334| .func 333| .const (.int .i64 329)=>true|_=>false) false false),
 (285,cf (fun| .func 333| .const (.int .i64 264)| .const (.map none)=>true|_=>false) false false),
 (286,cf (fun| .func 333| .const (.int .i64 264)=>true|_=>false) false false),(287,cf (fun| .func 323=>true|_=>false) false false),
 (288,cf (fun| .func 327| .func 223| .const (.int .i64 264)| .const (.int .i64 327)| .const (.int .i64 330)| .const (.int .i64 223)=>true|_=>false) false false),
 (289,cf (fun| .func 333=>true|_=>false) false false),(290,cf (fun| .func 121=>true|_=>false) false false),
 (293,cf (fun| .func 198| .func 344| .func 197| .func 234| .func 196=>true|_=>false) false false),
 (294,cf (fun| .func 197| .func 196| .func 235=>true|_=>false) false false),(295,cf (fun| .func 345| .func 233=>true|_=>false) false false),
 (321,cf (fun| .tmp 8=>true|_=>false) false false),(327,cf (fun| .const (.int .i64 264)| .const (.map none)=>true|_=>false) false false),
 (328,cf (fun| .func 359| .const (.int .i64 330)=>true|_=>false) false false),
 (329,cf (fun| .func 359| .const (.int .i64 264)=>true|_=>false) false false),(330,cf (fun| .const (.int .i64 264)=>true|_=>false) false false),
 (331,cf (fun| .const (.int .i64 264)=>true|_=>false) false false),(332,cf (fun| .func 359| .func 332=>true|_=>false) false false),
 (334,cf (fun| .const (.map none)=>true|_=>false) false false),(335,cf (fun _=>false) true false),(336,cf (fun _=>false) true false),
 (344,cf (fun| .func 293=>true|_=>false) false false),(345,cf (fun| .func 361| .func 198=>true|_=>false) false false),
 (358,cf (fun _=>false) true false),(361,cf (fun| .func 364| .func 365=>true|_=>false) false false),
 (364,cf (fun| .func 232| .func 197| .func 233| .func 366| .func 198| .func 367| .func 235| .func 196| .func 368=>true|_=>false) false false),
 (366,cf (fun| .func 196| .func 235| .func 198=>true|_=>false) false false),
 (367,cf (fun| .func 235| .func 196| .func 370| .func 198=>true|_=>false) false false),
 (368,cf (fun| .func 366| .func 196| .func 197| .func 235=>true|_=>false) false false),
 (370,cf (fun| .func 198| .func 232| .func 197| .func 196| .func 370=>true|_=>false) false false)]
noncomputable def cfg (n:Nat):(Operand->Bool)×Bool×Bool:=(bMc.lookup n).getD (fun _=>false,false,false)
noncomputable def L :bG:=aX1 Tryz.prog cfg
theorem bMd :oX Tryz.prog L:=bAx _ _
theorem at_ {n:Nat}{fn:Func}(h:Tryz.prog.funcs[n]?=some fn):L n=wX Tryz.prog (cfg n).1 (cfg n).2.1 (cfg n).2.2 fn:=bAw h
def bMe :iR:={np:=0,res:=[.tmp 0],keep:=false,body:=
 (.seq (.ops [mC 0 (.bool false)])
 (.seq (.ops [cL 29 50 [],cL 30 51 [],o 1 (.alloc [(.cl []),(.cl []),(.int .i64 0),(.cl [])]),o 2 (.alloc [(.int .i64 0),(.cl []),(.cl [])]),sT 4 1 29,
 sT 3 2 30])
 (.seq (.seq (.ops [lT 31 4 1,lT 32 3 2,cL 33 12 [(.t 31),(.t 32)],nT 34 33,mT 35 34,gF 36 35 false 2 2,g1 37 35 false 36,gN 38 35 false 37,
 gB 39 35 false .neq (.t 38) (cI 3),pO 40 35 39])
 (.cond (.t 40)
 (.seq (.ops [mC 0 (.bool false)])
 .ret)
 .skip))
 (.seq (.ops [lT 42 4 1,lT 43 3 2,cL 44 14 [(.t 42),(.t 43),(cI 5)],mT 41 44,o 45 (.ext 0 (.t 41)),o 46 (.ext 1 (.t 41)),o 47 (.ext 2 (.t 41)),
 o 3 (.alloc [(.cl []),(.cl []),(.cl []),(.cl []),(.int .i64 0)]),sT 5 3 45,mT 4 46,mT 5 47])
 (.seq (.ops [lT 49 4 1,lT 50 3 2,cL 51 15 [(.t 49),(.t 50),(cI 3),(cI 5)],mT 48 51,o 52 (.ext 0 (.t 48)),o 53 (.ext 1 (.t 48)),mT 6 52,mT 7 53])
 (.seq (.ops [lT 55 4 1,lT 56 3 2,cL 57 25 [(.t 55),(.t 56),(cI 4)],mT 54 57,o 58 (.ext 0 (.t 54)),o 59 (.ext 1 (.t 54)),mT 8 58,mT 9 59])
 (.seq (.ops [lT 61 4 1,lT 62 3 2,cL 63 26 [(.t 61),(.t 62),(cI 7),(cI 1)],mT 60 63,o 64 (.ext 0 (.t 60)),o 65 (.ext 1 (.t 60)),mT 10 64,mT 11 65])
 (.seq (.ops [lT 67 4 1,lT 68 3 2,cL 69 26 [(.t 67),(.t 68),(cI 4),(cI 1)],mT 66 69,o 70 (.ext 0 (.t 66)),o 71 (.ext 1 (.t 66)),mT 12 70,mT 13 71])
 (.seq (.ops [lT 73 4 1,lT 74 3 2,cL 75 29 [(.t 73),(.t 74),(cI 0)],mT 72 75,o 76 (.ext 0 (.t 72)),o 77 (.ext 1 (.t 72)),mT 14 76,mT 15 77])
 (.seq (.ops [lT 79 4 1,lT 80 3 2,cL 81 30 [(.t 79),(.t 80),(cI 0)],mT 78 81,o 82 (.ext 0 (.t 78)),o 83 (.ext 1 (.t 78)),mT 16 82,mT 17 83])
 (.seq (.ops [lT 85 4 1,lT 86 3 2,cL 87 31 [(.t 85),(.t 86),(cI 1)],mT 84 87,o 88 (.ext 0 (.t 84)),o 89 (.ext 1 (.t 84)),mT 18 88,mT 19 89])
 (.seq (.draw [lT 91 4 1,lT 92 3 2,cL 93 52 [(cI 7)],
 o 94 (.build [(.int .i64 0),(.int .i64 0),(.int .i64 0),(.int .i64 0)] [(0,1,(cI 1)),(1,1,(cI 1)),(2,2,(.t 93))]),cL 95 33 [(.t 91),(.t 92),(cI 0),(.t 94)],
 mT 90 95,o 96 (.ext 0 (.t 90)),o 97 (.ext 1 (.t 90)),mT 20 96,mT 21 97]
 [(0,2),(1,2)])
 (.seq (.ops [lT 99 4 1,lT 100 3 2,cL 101 16 [(.t 99),(.t 100),(cI 6),(cI 2)],mT 98 101,o 102 (.ext 0 (.t 98)),o 103 (.ext 1 (.t 98)),
 o 22 (.alloc [(.cl []),(.cl []),(.cl []),(.cl []),(.int .i64 0)]),sT 5 22 102,mT 23 103])
 (.seq (.seq (.ops [mT 104 5,bN 105 .neq (.t 104) (cI 0),mT 106 105,gM 107 106 false 7,gB 108 106 false .neq (.t 107) (cI 0),pO 109 106 108,mT 110 109,
 gM 111 110 false 9,gB 112 110 false .neq (.t 111) (cI 0),pO 113 110 112,mT 114 113,gM 115 114 false 11,gB 116 114 false .neq (.t 115) (cI 0),pO 117 114 116,mT 118 117,
 gM 119 118 false 13,gB 120 118 false .neq (.t 119) (cI 0),pO 121 118 120,mT 122 121,gM 123 122 false 15,gB 124 122 false .neq (.t 123) (cI 0),pO 125 122 124,
 mT 126 125,gM 127 126 false 17,gB 128 126 false .neq (.t 127) (cI 0),pO 129 126 128,mT 130 129,gM 131 130 false 19,gB 132 130 false .neq (.t 131) (cI 0),
 pO 133 130 132,mT 134 133,gM 135 134 false 21,gB 136 134 false .neq (.t 135) (cI 0),pO 137 134 136,mT 138 137,gM 139 138 false 23,
 gB 140 138 false .neq (.t 139) (cI 5),pO 141 138 140,mT 142 141,gM 143 142 false 6,gN 144 142 false 143,gB 145 142 false .neq (.t 144) (cI 2),pO 146 142 145])
 (.cond (.t 146)
 (.seq (.ops [mC 0 (.bool false)])
 .ret)
 .skip))
 (.seq (.draw [fA 147 0 2,l1 148 147,fA 149 1 2,l1 150 149,fA 151 2 2,l1 152 151,o 153 (.ia 5 (.t 152) (cI 0)),lT 154 5 153,fA 155 2 2,l1 156 155,
 o 157 (.ia 5 (.t 156) (cI 2)),lT 158 5 157,fA 159 2 2,l1 160 159,o 161 (.ia 5 (.t 160) (cI 2)),lT 162 5 161,
 o 163 (.bslice 3 5 [(.cl []),(.cl []),(.cl []),(.cl []),(.int .i64 0)] [(0,(.t 154)),(1,(.t 158)),(2,(.t 162))]),
 o 164 (.build [(.int .i64 0),(.cl []),(.cl [])] [(0,1,(.t 148)),(1,1,(.t 150)),(2,1,(.t 163))]),o 24 (.alloc [(.int .i64 0),(.cl []),(.cl [])]),sT 3 24 164]
 [(1,16),(3,16),(1,18),(3,18),(5,18),(6,18),(7,18),(9,18),(10,18),(11,18),(13,18),(14,18),(15,18),(16,18)])
 (.seq (.ops [lT 166 4 1,lT 167 3 24,cL 168 11 [(.t 166),(.t 167)],mT 165 168,o 169 (.ext 0 (.t 165)),o 170 (.ext 1 (.t 165)),mT 25 169,mT 26 170])
 (.seq (.ops [lT 172 4 1,lT 173 3 2,cL 174 11 [(.t 172),(.t 173)],mT 171 174,o 175 (.ext 0 (.t 171)),o 176 (.ext 1 (.t 171)),mT 27 175,mT 28 176])
 (.seq (.draw [mT 177 4,bN 178 .eql (.t 177) (cI 2),mT 179 178,gM 180 179 true 6,og 181 179 true (.ia 5 (.t 180) (cI 1)),gT 182 179 true 5 181,
 gL 183 179 true 52 [(cI 7)],og 184 179 true (.build [(.int .i64 0),(.int .i64 0),(.int .i64 0),(.int .i64 0),(.int .i64 0)] [(1,1,(cI 18)),(3,2,(.t 183))]),
 og 185 179 true (.bin .eql (.agg [.num,.num,.num,.num,.num]) (.t 182) (.t 184)),pA 186 179 185,mT 187 186,gM 188 187 true 8,gB 189 187 true .eql (.t 188) (cI 1),
 pA 190 187 189,mT 191 190,gM 192 191 true 10,gB 193 191 true .eql (.t 192) (cI 4),pA 194 191 193,mT 195 194,gM 196 195 true 12,gB 197 195 true .eql (.t 196) (cI 0),
 pA 198 195 197,mT 199 198,gM 200 199 true 14,gB 201 199 true .eql (.t 200) (cI 2),pA 202 199 201,mT 203 202,gM 204 203 true 16,gB 205 203 true .eql (.t 204) (cI 3),
 pA 206 203 205,mT 207 206,gM 208 207 true 18,gB 209 207 true .eql (.t 208) (cI 0),pA 210 207 209,mT 211 210,gM 212 211 true 20,gB 213 211 true .eql (.t 212) (cI 5),
 pA 214 211 213,mT 215 214,gM 216 215 true 25,gB 217 215 true .eql (.t 216) (cI 3),pA 218 215 217,mT 219 218,gM 220 219 true 26,gB 221 219 true .eql (.t 220) (cI 7),
 pA 222 219 221,mT 223 222,gM 224 223 true 28,gB 225 223 true .eql (.t 224) (cI 0),pA 226 223 225,mT 0 226]
 [(4,6),(5,6)])
 .ret))))))))))))))))))}
theorem bN4 :L 10=some bMe:=by kernel_rfl
def bH2 :iR:={np:=2,res:=[.tmp 4],keep:=false,body:=
 (.seq (.ops [mC 4 (.bool false)])
 (.seq (.seq (.ops [mT 6 0,lN 7 6,mT 8 1,lN 9 8,bN 10 .neq (.t 7) (.t 9)])
 (.cond (.t 10)
 (.seq (.ops [mC 4 (.bool false)])
 .ret)
 .skip))
 (.seq (.seq (.ops [mC 5 (.int .i64 0)])
 (.block 0 (.loop (.seq (.seq (.ops [mT 11 5,mT 12 0,lN 13 12,bN 14 .lss (.t 11) (.t 13)])
 (.cond (.t 14)
 .skip
 (.exit 0)))
 (.seq (.block 1 (.seq (.draw [mT 17 0,mT 18 5,iA 19 2 17 18,lT 20 2 19,mT 21 1,mT 22 5,iA 23 2 21 22,lT 24 2 23,o 25 (.bin .neq (.agg [.num,.num]) (.t 20) (.t 24))]
 [])
 (.cond (.t 25)
 (.seq (.ops [mC 4 (.bool false)])
 .ret)
 .skip)))
 (.ops [mT 15 5,bN 16 .add (.t 15) (cI 1),mT 5 16]))))))
 (.seq (.ops [mC 4 (.bool true)])
 .ret))))}
theorem bMf :L 72=some bH2:=by kernel_rfl
def aI0 :iR:={np:=4,res:=[],keep:=false,body:=
 (.seq (.seq (.ops [l1 9 1,l1 10 2,bN 11 .geq (.t 9) (.t 10)])
 (.cond (.t 11)
 .ret
 .skip))
 (.seq (.opsP [l1 12 3,l1 13 1,cL 14 63 [(.t 12),(.t 13)],o 5 (.alloc [(.cl []),(.cl []),(.cl []),(.cl []),(.int .i64 0)]),sT 5 5 14])
 (.seq (.ops [l1 15 1,mT 6 15])
 (.block 0 (.loop (.seq (.seq (.ops [mT 16 6,l1 17 2,bN 18 .lss (.t 16) (.t 17)])
 (.cond (.t 18)
 .skip
 (.exit 0)))
 (.seq (.block 1 (.seq (.seq (.ops [l1 21 3,mT 22 6,cL 23 107 [(.t 21),(.t 22)]])
 (.cond (.t 23)
 (.draw [l1 24 3,nK 25 24,fA 26 0 25,fA 27 2 26,l1 28 27,mT 29 6,l1 30 3,nK 31 30,fA 32 0 31,fA 33 0 32,l1 34 33,bN 35 .quo (.t 29) (.t 34),iA 36 5 28 35,lT 37 5 36,
 sT 5 5 37]
 [])
 .skip))
 (.seq (.drawP [l1 39 3,lT 40 5 5,l1 41 3,nK 42 41,fA 43 0 42,fA 44 1 43,l1 45 44,mT 46 6,iA 47 1 45 46,l1 48 47,cL 49 105 [(.t 39),(.t 40),(.t 48)],
 mT 38 49,o 50 (.ext 0 (.t 38)),o 51 (.ext 1 (.t 38)),o 7 (.alloc [(.cl []),(.cl []),(.cl []),(.cl []),(.int .i64 0)]),
 o 8 (.alloc [(.int .i64 0),(.int .i64 0),(.int .i64 0),(.int .i64 0),(.int .i64 0)]),sT 5 7 50,sT 5 8 51]
 [[],[],[],[2],[3,2],[4,3,2],[5,4,3,2],[],[6,7,5,4,3,2],[8,6,7,5,4,3,2],[0,1,9,8,6,7,5,4,3,2],[10,0,1,9,8,6,7,5,4,3,2],[11,10,0,1,9,8,6,7,5,4,3,2],[11,10,0,1,9,8,6,7,5,4,3,2],[],[],[14,12,10,0,1,2,3,4,5,6,7,8,9,11,15],[15,13,16,0,1,2,3,4,5,6,7,8,9,10,11,12,14]]
 [(0,14),(1,14),(2,14),(6,14),(8,14),(9,14),(10,14),(0,15),(1,15),(2,15),(6,15),(8,15),(9,15),(10,15),(14,15)])
 (.seq (.seq (.ops [mT 52 0,mT 53 6,lT 54 5 5,lT 55 5 7,lT 56 5 8,
 o 57 (.build ([(.cl []),(.cl []),(.cl []),(.cl []),(.int .i64 0),(.cl []),(.cl []),(.cl []),(.cl []),(.int .i64 0),(.int .i64 0),(.int .i64 0),(.int .i64 0),(.int .i64 0),(.int .i64 0)]) [(0,5,(.t 54)),(5,5,(.t 55)),(10,5,(.t 56))]),
 o 58 (.icall (.t 52) [(.t 53),(.t 57)]),nT 59 58])
 (.cond (.t 59)
 .ret
 .skip))
 (.ops [lT 60 5 7,sT 5 5 60])))))
 (.ops [mT 19 6,bN 20 .add (.t 19) (cI 1),mT 6 20]))))))))}
theorem aLs :L 118=some aI0:=by kernel_rfl
def bC6 :iR:={np:=2,res:=[.tmp 4],keep:=false,body:=
 (.seq (.ops [mC 4 (.bool false)])
 (.seq (.seq (.ops [mT 6 0,lN 7 6,mT 8 1,lN 9 8,bN 10 .neq (.t 7) (.t 9)])
 (.cond (.t 10)
 (.seq (.ops [mC 4 (.bool false)])
 .ret)
 .skip))
 (.seq (.seq (.ops [mC 5 (.int .i64 0)])
 (.block 0 (.loop (.seq (.seq (.ops [mT 11 5,mT 12 0,lN 13 12,bN 14 .lss (.t 11) (.t 13)])
 (.cond (.t 14)
 .skip
 (.exit 0)))
 (.seq (.block 1 (.seq (.draw [mT 17 0,mT 18 5,iA 19 2 17 18,lT 20 2 19,mT 21 1,mT 22 5,iA 23 2 21 22,lT 24 2 23,o 25 (.bin .neq (.agg [.num,.num]) (.t 20) (.t 24))]
 [])
 (.cond (.t 25)
 (.seq (.ops [mC 4 (.bool false)])
 .ret)
 .skip)))
 (.ops [mT 15 5,bN 16 .add (.t 15) (cI 1),mT 5 16]))))))
 (.seq (.ops [mC 4 (.bool true)])
 .ret))))}
theorem bH3 :L 125=some bC6:=by kernel_rfl
def bC7 :iR:={np:=2,res:=[.tmp 4],keep:=false,body:=
 (.seq (.ops [mC 4 (.bool false)])
 (.seq (.seq (.ops [mT 6 0,lN 7 6,mT 8 1,lN 9 8,bN 10 .neq (.t 7) (.t 9)])
 (.cond (.t 10)
 (.seq (.ops [mC 4 (.bool false)])
 .ret)
 .skip))
 (.seq (.seq (.ops [mT 11 0,lN 12 11,mC 13 (.int .i64 0)])
 (.block 0 (.loop (.seq (.ops [bN 14 .lss (.t 13) (.t 12)])
 (.seq (.cond (.t 14)
 .skip
 (.exit 0))
 (.seq (.block 1 (.seq (.ops [mT 15 13,mT 5 15])
 (.seq (.draw [mT 16 0,mT 17 5,iA 18 2 16 17,lT 19 2 18,mT 20 1,mT 21 5,iA 22 2 20 21,lT 23 2 22,o 24 (.bin .neq (.agg [.num,.num]) (.t 19) (.t 23))]
 [])
 (.cond (.t 24)
 (.seq (.ops [mC 4 (.bool false)])
 .ret)
 .skip))))
 (.ops [bN 25 .add (.t 13) (cI 1),mT 13 25])))))))
 (.seq (.ops [mC 4 (.bool true)])
 .ret))))}
theorem bH4 :L 160=some bC7:=by kernel_rfl
def bC8 :iR:={np:=2,res:=[.tmp 4],keep:=false,body:=
 (.seq (.ops [mC 4 (.bool false)])
 (.seq (.seq (.ops [mT 6 0,lN 7 6,mT 8 1,lN 9 8,bN 10 .neq (.t 7) (.t 9)])
 (.cond (.t 10)
 (.seq (.ops [mC 4 (.bool false)])
 .ret)
 .skip))
 (.seq (.seq (.ops [mT 11 0,lN 12 11,mC 13 (.int .i64 0)])
 (.block 0 (.loop (.seq (.ops [bN 14 .lss (.t 13) (.t 12)])
 (.seq (.cond (.t 14)
 .skip
 (.exit 0))
 (.seq (.block 1 (.seq (.ops [mT 15 13,mT 5 15])
 (.seq (.draw [mT 16 0,mT 17 5,iA 18 2 16 17,lT 19 2 18,mT 20 1,mT 21 5,iA 22 2 20 21,lT 23 2 22,o 24 (.bin .neq (.agg [.num,.num]) (.t 19) (.t 23))]
 [])
 (.cond (.t 24)
 (.seq (.ops [mC 4 (.bool false)])
 .ret)
 .skip))))
 (.ops [bN 25 .add (.t 13) (cI 1),mT 13 25])))))))
 (.seq (.ops [mC 4 (.bool true)])
 .ret))))}
theorem bH5 :L 165=some bC8:=by kernel_rfl
def aDo :iR:={np:=6,res:=[.cell 12 true 11],keep:=false,body:=
 (.seq (.ops [bX 6 5 0,bX 10 2 4,bX 11 2 5,
 o 12 (.alloc ([(.cl []),(.cl []),(.cl []),(.cl []),(.int .i64 0),(.int .i64 0),(.int .i64 0),(.int .i64 0),(.int .i64 0),(.int .i64 0),(.int .i64 0)]))])
 (.seq (.seq (.ops [mT 14 3,bN 15 .eql (.t 14) (cI 13)])
 (.cond (.t 15)
 (.seq (.seq (.ops [fA 16 0 10,l1 17 16,fA 18 0 11,l1 19 18,bN 20 .neq (.t 17) (.t 19),mT 21 20,gF 22 21 false 0 10,g1 23 21 false 22,
 gB 24 21 false .gtr (.t 23) (cI 3),pO 25 21 24])
 (.cond (.t 25)
 (.seq (.ops [lT 26 5 6,mT 27 1,cL 28 177 [(.t 26),(.t 27),(cI 2)],sT 11 12 28])
 .ret)
 .skip))
 (.seq (.draw [lT 29 5 6,mT 30 1,mT 31 2,lT 32 2 10,lT 33 2 11,o 34 (.bin .eql (.agg [.num,.num]) (.t 32) (.t 33)),cL 35 179 [(.t 34)],
 cL 36 178 [(.t 29),(.t 30),(.t 31),(.t 35)],sT 11 12 36]
 [(0,6)])
 .ret))
 .skip))
 (.seq (.seq (.ops [fA 37 0 10,l1 38 37,bN 39 .neq (.t 38) (cI 1),mT 40 39,gF 41 40 false 0 11,g1 42 40 false 41,gB 43 40 false .neq (.t 42) (cI 1),pO 44 40 43])
 (.cond (.t 44)
 (.seq (.ops [lT 45 5 6,mT 46 1,cL 47 177 [(.t 45),(.t 46),(cI 2)],sT 11 12 47])
 .ret)
 .skip))
 (.seq (.ops [mC 13 (.int .i64 0)])
 (.seq (.seq (.ops [mT 48 3])
 (.block 0 (.seq (.ops [bN 50 .eql (.t 48) (cI 12),mT 49 50])
 (.cond (.t 49)
 (.seq (.draw [lT 51 5 6,mT 52 1,mT 53 2,fA 54 1 10,l1 55 54,fA 56 1 11,l1 57 56,bN 58 .lss (.t 55) (.t 57),cL 59 179 [(.t 58)],
 cL 60 178 [(.t 51),(.t 52),(.t 53),(.t 59)],sT 11 12 60]
 [(0,8)])
 .ret)
 (.seq (.ops [bN 62 .eql (.t 48) (cI 9),mT 61 62])
 (.cond (.t 61)
 (.ops [fA 63 1 10,l1 64 63,fA 65 1 11,l1 66 65,bN 67 .add (.t 64) (.t 66),mT 13 67])
 (.seq (.ops [bN 69 .eql (.t 48) (cI 10),mT 68 69])
 (.cond (.t 68)
 (.ops [fA 70 1 10,l1 71 70,fA 72 1 11,l1 73 72,bN 74 .sub (.t 71) (.t 73),mT 13 74])
 (.seq (.ops [bN 76 .eql (.t 48) (cI 11),mT 75 76])
 (.cond (.t 75)
 (.ops [fA 77 1 10,l1 78 77,fA 79 1 11,l1 80 79,bN 81 .mul (.t 78) (.t 80),mT 13 81])
 .skip))))))))))
 (.seq (.seq (.ops [mT 82 13,cL 83 101 [(.t 82),(cI (-1000000000)),(cI 1000000000)],nT 84 83])
 (.cond (.t 84)
 (.seq (.ops [lT 85 5 6,mT 86 1,cL 87 177 [(.t 85),(.t 86),(cI 4)],sT 11 12 87])
 .ret)
 .skip))
 (.seq (.draw [lT 88 5 6,mT 89 1,mT 90 2,mT 91 13,cL 92 52 [(.t 91)],cL 93 178 [(.t 88),(.t 89),(.t 90),(.t 92)],sT 11 12 93]
 [(0,4)])
 .ret)))))))}
theorem aGc :L 183=some aDo:=by kernel_rfl
def aBo :iR:={np:=3,res:=[.tmp 6,.tmp 7],keep:=false,body:=
 (.seq (.ops [bX 3 5 0,bX 4 4 1,bX 5 2 2,mC 6 (.cl []),mC 7 (.bool false)])
 (.seq (.seq (.ops [fA 14 0 4,l1 15 14])
 (.block 0 (.seq (.ops [bN 17 .eql (.t 15) (cI 1),mT 16 17])
 (.cond (.t 16)
 (.seq (.ops [mC 6 (.cl []),mC 7 (.bool true)])
 .ret)
 (.seq (.ops [bN 19 .eql (.t 15) (cI 2),mT 18 19])
 (.cond (.t 18)
 (.seq (.ops [lT 20 2 5,o 21 (.bslice 1 2 [(.int .i64 0),(.int .i64 0)] [(0,(.t 20))]),mT 6 21,mC 7 (.bool true)])
 .ret)
 (.seq (.ops [bN 23 .eql (.t 15) (cI 3),mT 22 23])
 (.cond (.t 22)
 (.seq (.draw [lT 24 2 5,fA 25 1 4,l1 26 25,cL 27 52 [(.t 26)],o 28 (.bin .eql (.agg [.num,.num]) (.t 24) (.t 27)),mC 6 (.cl []),mT 7 28]
 [(0,3)])
 .ret)
 (.seq (.ops [bN 30 .eql (.t 15) (cI 4),mT 29 30])
 (.cond (.t 29)
 (.seq (.draw [lT 31 2 5,fA 32 1 4,l1 33 32,bN 34 .eql (.t 33) (cI 1),cL 35 179 [(.t 34)],o 36 (.bin .eql (.agg [.num,.num]) (.t 31) (.t 35)),mC 6 (.cl []),
 mT 7 36]
 [(0,4)])
 .ret)
 (.seq (.ops [bN 38 .eql (.t 15) (cI 5),mT 37 38])
 (.cond (.t 37)
 (.seq (.draw [lT 39 2 5,cL 40 180 [],o 41 (.bin .eql (.agg [.num,.num]) (.t 39) (.t 40)),mC 6 (.cl []),mT 7 41]
 [(0,1)])
 .ret)
 .skip))))))))))))
 (.seq (.ops [lT 43 5 3,lT 44 2 5,cL 45 227 [(.t 43),(.t 44),(cI 1)],mT 42 45,o 46 (.ext 0 (.t 42)),o 47 (.ext 1 (.t 42)),
 o 8 (.alloc [(.int .i64 0),(.int .i64 0),(.cl []),(.cl [])]),sT 4 8 46,mT 9 47])
 (.seq (.seq (.ops [mT 48 9,nT 49 48,mT 50 49,gF 51 50 false 1 8,g1 52 50 false 51,gF 53 50 false 1 4,g1 54 50 false 53,gB 55 50 false .neq (.t 52) (.t 54),pO 56 50 55,
 mT 57 56,gF 58 57 false 2 8,g1 59 57 false 58,gN 60 57 false 59,gF 61 57 false 3 4,g1 62 57 false 61,gN 63 57 false 62,gB 64 57 false .neq (.t 60) (.t 63),
 pO 65 57 64])
 (.cond (.t 65)
 (.seq (.ops [mC 6 (.cl []),mC 7 (.bool false)])
 .ret)
 .skip))
 (.seq (.ops [mC 10 (.cl [])])
 (.seq (.seq (.ops [mC 11 (.int .i64 0)])
 (.block 1 (.loop (.seq (.seq (.ops [mT 66 11,fA 67 3 4,l1 68 67,lN 69 68,bN 70 .lss (.t 66) (.t 69)])
 (.cond (.t 70)
 .skip
 (.exit 1)))
 (.seq (.block 2 (.seq (.draw [lT 74 5 3,fA 75 3 4,l1 76 75,mT 77 11,iA 78 4 76 77,lT 79 4 78,fA 80 2 8,l1 81 80,mT 82 11,iA 83 2 81 82,lT 84 2 83,
 cL 85 229 [(.t 74),(.t 79),(.t 84)],mT 73 85,o 86 (.ext 0 (.t 73)),o 87 (.ext 1 (.t 73)),mT 12 86,mT 13 87]
 [])
 (.seq (.seq (.ops [mT 88 13,nT 89 88])
 (.cond (.t 89)
 (.seq (.ops [mC 6 (.cl []),mC 7 (.bool false)])
 .ret)
 .skip))
 (.ops [mT 90 10,mT 91 12,o 92 (.append 2 (.t 90) (.t 91)),mT 10 92]))))
 (.ops [mT 71 11,bN 72 .add (.t 71) (cI 1),mT 11 72]))))))
 (.seq (.ops [mT 93 10,mT 6 93,mC 7 (.bool true)])
 .ret)))))))}
theorem aDp :L 229=some aBo:=by kernel_rfl
def aGd :iR:={np:=4,res:=[.tmp 8],keep:=false,body:=
 (.seq (.ops [bX 5 4 1,bX 6 2 2,mC 8 (.bool false)])
 (.seq (.seq (.ops [fA 13 0 5,l1 14 13])
 (.block 0 (.seq (.ops [bN 16 .eql (.t 14) (cI 2),mT 15 16])
 (.cond (.t 15)
 (.draw [mT 17 3,mT 18 3,nK 19 18,l1 20 19,lT 21 2 6,o 22 (.bslice 1 2 [(.int .i64 0),(.int .i64 0)] [(0,(.t 21))]),o 23 (.append 2 (.t 20) (.t 22)),nK 24 17,
 sT 1 24 23]
 [(3,5)])
 (.seq (.ops [bN 26 .eql (.t 14) (cI 3),mT 25 26])
 (.cond (.t 25)
 (.seq (.draw [lT 27 2 6,fA 28 1 5,l1 29 28,cL 30 324 [(.t 29)],o 31 (.bin .eql (.agg [.num,.num]) (.t 27) (.t 30)),mT 8 31]
 [(0,3)])
 .ret)
 (.seq (.ops [bN 33 .eql (.t 14) (cI 4),mT 32 33])
 (.cond (.t 32)
 (.seq (.draw [lT 34 2 6,fA 35 1 5,l1 36 35,bN 37 .eql (.t 36) (cI 1),cL 38 325 [(.t 37)],o 39 (.bin .eql (.agg [.num,.num]) (.t 34) (.t 38)),mT 8 39]
 [(0,4)])
 .ret)
 (.seq (.ops [bN 41 .eql (.t 14) (cI 5),mT 40 41])
 (.cond (.t 40)
 (.seq (.draw [lT 42 2 6,cL 43 326 [],o 44 (.bin .eql (.agg [.num,.num]) (.t 42) (.t 43)),mT 8 44]
 [(0,1)])
 .ret)
 (.seq (.ops [bN 46 .eql (.t 14) (cI 6),mT 45 46])
 (.cond (.t 45)
 (.seq (.ops [mT 48 0,lT 49 2 6,o 50 (.icall (.f 359) [(.t 48),(.t 49),(cI 1)]),mT 47 50,o 51 (.ext 0 (.t 47)),o 52 (.ext 1 (.t 47)),
 o 9 (.alloc [(.int .i64 0),(.int .i64 0),(.cl []),(.cl [])]),sT 4 9 51,mT 10 52])
 (.seq (.seq (.ops [mT 53 10,nT 54 53,mT 55 54,gF 56 55 false 1 9,g1 57 55 false 56,gF 58 55 false 1 5,g1 59 55 false 58,gB 60 55 false .neq (.t 57) (.t 59),
 pO 61 55 60,mT 62 61,gF 63 62 false 2 9,g1 64 62 false 63,gN 65 62 false 64,gF 66 62 false 3 5,g1 67 62 false 66,gN 68 62 false 67,gB 69 62 false .neq (.t 65) (.t 68),
 pO 70 62 69])
 (.cond (.t 70)
 (.seq (.ops [mC 8 (.bool false)])
 .ret)
 .skip))
 (.seq (.ops [fA 71 3 5,l1 72 71,lN 73 72,mC 74 (.int .i64 0)])
 (.block 1 (.loop (.seq (.ops [bN 75 .lss (.t 74) (.t 73)])
 (.seq (.cond (.t 75)
 .skip
 (.exit 1))
 (.seq (.block 2 (.seq (.ops [mT 76 74,iA 77 4 72 74,lT 78 4 77,o 12 (.alloc [(.int .i64 0),(.int .i64 0),(.str ⟨#[]⟩),(.cl [])]),mT 11 76,sT 4 12 78])
 (.seq (.draw [mT 79 0,lT 80 4 12,fA 81 2 9,l1 82 81,mT 83 11,iA 84 2 82 83,lT 85 2 84,mT 86 3,o 87 (.icall (.f 332) [(.t 79),(.t 80),(.t 85),(.t 86)]),
 nT 88 87]
 [])
 (.cond (.t 88)
 (.seq (.ops [mC 8 (.bool false)])
 .ret)
 .skip))))
 (.ops [bN 89 .add (.t 74) (cI 1),mT 74 89])))))))))
 .skip))))))))))))
 (.seq (.ops [mC 8 (.bool true)])
 .ret)))}
theorem aLt :L 332=some aGd:=by kernel_rfl
end Go.Proofs.YtmnchlhngpdffaaGreat
