/- What the functions of the program are for the interpreter. -/
import Derived.Test.YtmnchlhngpdffaaGreatRows
import Derived.Test.YtmnchlhngpdffaaGreatHxD
set_option linter.all false
namespace Go.Proofs.YtmnchlhngpdffaaGreat
open Go.Abs Go.Proofs
def cf (I:Operand->Bool)(k a:Bool):(Operand->Bool)×Bool×Bool:=(I,k,a)
noncomputable def bNa :List (Nat×((Operand->Bool)×Bool×Bool)):=[(11,cf (fun| .const (.int .i64 55)=>true|_=>false) false false),
 (14,cf (fun| .const (.int .i64 55)| .const (.int .i64 61)| .const (.int .i64 63)=>true|_=>false) false false),
 (15,cf (fun| .const (.int .i64 55)| .const (.int .i64 61)=>true|_=>false) false false),
 (16,cf (fun| .const (.int .i64 55)| .const (.int .i64 61)| .const (.int .i64 67)=>true|_=>false) false false),
 (25,cf (fun| .const (.int .i64 55)| .const (.int .i64 61)| .const (.int .i64 67)| .const (.int .i64 79)=>true|_=>false) false false),
 (26,cf (fun| .const (.int .i64 55)| .const (.int .i64 61)| .const (.int .i64 63)| .const (.int .i64 67)| .const (.int .i64 79)=>true|_=>false) false false),
 (29,cf (fun| .const (.int .i64 55)| .const (.int .i64 82)=>true|_=>false) false false),
 (30,cf (fun| .const (.int .i64 55)| .const (.int .i64 82)=>true|_=>false) false false),
 (31,cf (fun| .const (.int .i64 55)| .const (.int .i64 82)=>true|_=>false) false false),
 (33,cf (fun| .const (.int .i64 55)| .const (.int .i64 61)| .const (.int .i64 90)=>true|_=>false) false false),
 (37,cf (fun| .const (.int .i64 61)=>true|_=>false) false false),
 (43,cf (fun| .func 106| .const (.int .i64 55)| .const (.int .i64 61)| .const (.int .i64 63)| .const (.int .i64 105)=>true|_=>false) false false),
 (44,cf (fun| .const (.int .i64 55)| .const (.int .i64 61)=>true|_=>false) false false),(53,cf (fun| .tmp 13=>true|_=>false) false false),
 (55,cf (fun| .const (.int .i64 61)=>true|_=>false) false false),(67,cf (fun| .const (.int .i64 63)| .const (.int .i64 105)=>true|_=>false) false false),
 (69,cf (fun| .func 119| .func 121=>true|_=>false) false false),(79,cf (fun| .const (.int .i64 61)=>true|_=>false) false false),
 (82,cf (fun| .const (.int .i64 61)=>true|_=>false) false false),(90,cf (fun| .const (.int .i64 61)=>true|_=>false) false false),
 (96,cf (fun| .func 119| .func 134=>true|_=>false) false false),(105,cf (fun| .const (.int .i64 61)=>true|_=>false) false false),
 (110,cf (fun| .func 147| .func 148| .func 149=>true|_=>false) false false),(111,cf (fun| .func 155| .func 157=>true|_=>false) false false),
 (115,cf (fun _=>false) true true),(116,cf (fun _=>false) true true),(117,cf (fun _=>false) true true),
 (118,cf (fun| .tmp 52| .const (.int .i64 63)| .const (.int .i64 105)=>true|_=>false) false false),
 (121,cf (fun| .func 168| .func 172| .const (.int .i64 172)=>true|_=>false) false false),(126,cf (fun| .func 175=>true|_=>false) false false),
 (133,cf (fun| .tmp 57| .const (.int .i64 63)| .const (.int .i64 105)=>true|_=>false) false false),(134,cf (fun| .func 121=>true|_=>false) false false),
 (145,cf (fun| .func 119| .func 194=>true|_=>false) false false),
 (148,cf (fun| .func 196| .func 197| .func 198| .func 199| .func 200=>true|_=>false) false false),
 (155,cf (fun| .func 207| .func 155=>true|_=>false) false false),(157,cf (fun| .func 210| .const (.bool true)| .func 157=>true|_=>false) false false),
 (168,cf (fun| .const .nilFunc=>true|_=>false) false false),(170,cf (fun| .func 168=>true|_=>false) false false),
 (172,cf (fun| .func 220| .func 223| .tmp 102| .const (.int .i64 220)| .const (.int .i64 223)| .const .nilIface=>true|_=>false) false false),
 (178,cf (fun| .func 126=>true|_=>false) false false),(181,cf (fun| .func 175| .func 178=>true|_=>false) false false),
 (185,cf (fun| .func 175=>true|_=>false) false false),(187,cf (fun| .func 181=>true|_=>false) false false),
 (191,cf (fun| .func 175=>true|_=>false) false false),(194,cf (fun| .func 134| .func 121=>true|_=>false) false false),
 (196,cf (fun| .func 198=>true|_=>false) false false),(197,cf (fun| .func 232=>true|_=>false) false false),
 (198,cf (fun| .func 233=>true|_=>false) false false),(199,cf (fun| .func 197| .func 196| .func 198| .func 234=>true|_=>false) false false),
 (200,cf (fun| .func 197| .func 196| .func 234| .func 235=>true|_=>false) false false),(207,cf (fun| .func 207=>true|_=>false) false false),
 (210,cf (fun| .func 210=>true|_=>false) false false),(219,cf (fun _=>false) true true),
 (220,cf (fun| .const (.int .i64 264)| .const .nilFunc=>true|_=>false) false false),(221,cf (fun _=>false) true false),
 (223,cf (fun| .func 220| .const (.int .i64 220)=>true|_=>false) false false),(226,cf (fun _=>false) true true),(230,cf (fun _=>false) true false),
 (234,cf (fun| .func 293| .func 198| .func 234=>true|_=>false) false false),
 (235,cf (fun| .func 198| .func 294| .func 197| .func 196| .func 235| .func 295=>true|_=>false) false false),
 (259,cf (fun| .func 320=>true|_=>false) false false),(265,cf (fun _=>false) true false),(266,cf (fun| .func 323=>true|_=>false) false false),
 (267,cf (fun| .func 323| .const (.int .i64 264)=>true|_=>false) false false),
 (268,cf (fun| .func 327| .func 323| .const (.int .i64 327)=>true|_=>false) false false),
 (269,cf (fun| .func 328| .func 220| .func 329| .func 323| .const (.int .i64 328)| .const (.int .i64 220)| .const (.int .i64 329)=>true|_=>false) false false),
 (270,cf (fun| .func 223| .const (.int .i64 330)| .const (.int .i64 223)=>true|_=>false) false false),
 (271,cf (fun| .func 223| .const (.int .i64 264)| .const (.int .i64 223)=>true|_=>false) false false),
 (272,cf (fun| .func 331| .func 323| .const (.int .i64 331)| .const (.int .i64 264)=>true|_=>false) false false),
 (273,cf (fun| .func 331| .func 323| .const (.int .i64 331)=>true|_=>false) false false),
 (274,cf (fun| .func 323| .const (.int .i64 264)=>true|_=>false) false false),
 (275,cf (fun| .func 327| .func 323| .const (.int .i64 327)=>true|_=>false) false false),
 (276,cf (fun| .func 332| .func 223| .const (.int .i64 330)| .const (.int .i64 223)=>true|_=>false) false false),
 (277,cf (fun| .func 327| .func 333| .const (.int .i64 327)=>true|_=>false) false false),
 (278,cf (fun| .func 329| .func 333| .const (.int .i64 329)=>true|_=>false) false false),
 (279,cf (fun| .func 329| .func 334| .func 333| .const (.int .i64 329)=>true|_=>false) false false),
 (280,cf (fun| .func 328| .func 329| .func 327| .func 333| .const (.int .i64 328)| .const (.int .i64 329)| .const (.int .i64 327)| .const (.map none)=>true|_=>false) false false),
 (281,cf (fun| .func 329| .func 333| .const (.int .i64 329)=>true|_=>false) false false),
 (282,cf (fun| .func 327| .func 333| .const (.int .i64 327)=>true|_=>false) false false),
 (283,cf (fun| .func 329| .func 334| .func 333| .const (.int .i64 329)=>true|_=>false) false false),
 (284,cf (fun| .func 329| .func 334| .func 333| .const (.int .i64 329)=>true|_=>false) false false),
 (285,cf (fun| .func 333| .const (.int .i64 264)| .const (.map none)=>true|_=>false) false false),
 (286,cf (fun| .func 333| .const (.int .i64 264)=>true|_=>false) false false),(287,cf (fun| .func 323=>true|_=>false) false false),
 (288,cf (fun| .func 327| .func 223| .const (.int .i64 264)| .const (.int .i64 327)| .const (.int .i64 330)| .const (.int .i64 223)=>true|_=>false) false false),
 (289,cf (fun| .func 333=>true|_=>false) false false),(290,cf (fun| .func 121=>true|_=>false) false false),
 (293,cf (fun| .func 198| .func 344| .func 197| .func 234| .func 196=>true|_=>false) false false),
 (294,cf (fun| .func 197| .func 196| .func 235=>true|_=>false) false false),(295,cf (fun| .func 345| .func 233=>true|_=>false) false false),
 (321,cf (fun| .tmp 8=>true|_=>false) false false),(327,cf (fun| .const (.int .i64 264)| .const (.map none)=>true|_=>false) false false),
 (328,cf (fun| .func 359| .const (.int .i64 330)=>true|_=>false) false false),
 (329,cf (fun| .func 359| .const (.int .i64 264)=>true|_=>false) false false),(330,cf (fun| .const (.int .i64 264)=>true|_=>false) false false),
 (331,cf (fun| .const (.int .i64 264)=>true|_=>false) false false),(332,cf (fun| .func 359| .func 332=>true|_=>false) false false),
 (334,cf (fun| .const (.map none)=>true|_=>false) false false),(335,cf (fun _=>false) true false),(336,cf (fun _=>false) true false),
 (344,cf (fun| .func 293=>true|_=>false) false false),(345,cf (fun| .func 361| .func 198=>true|_=>false) false false),
 (358,cf (fun _=>false) true false),(361,cf (fun| .func 364| .func 365=>true|_=>false) false false),
 (364,cf (fun| .func 232| .func 197| .func 233| .func 366| .func 198| .func 367| .func 235| .func 196| .func 368=>true|_=>false) false false),
 (366,cf (fun| .func 196| .func 235| .func 198=>true|_=>false) false false),
 (367,cf (fun| .func 235| .func 196| .func 370| .func 198=>true|_=>false) false false),
 (368,cf (fun| .func 366| .func 196| .func 197| .func 235=>true|_=>false) false false),
 (370,cf (fun| .func 198| .func 232| .func 197| .func 196| .func 370=>true|_=>false) false false)]
noncomputable def cfg (n:Nat):(Operand->Bool)×Bool×Bool:=(bNa.lookup n).getD (fun _=>false,false,false)
noncomputable def L :bJ:=aZ4 Tryz.prog cfg
theorem bJl :pW Tryz.prog L:=bC5 _ _
theorem at_ {n:Nat}{fn:Func}(h:Tryz.prog.funcs[n]?=some fn):L n=xT Tryz.prog (cfg n).1 (cfg n).2.1 (cfg n).2.2 fn:=bC4 h
def bAu :jB:={np:=1,res:=[.tmp 2],keep:=false,body:=
 (.seq (.ops [bX 1 4 0,mC 2 (.bool false)])
 (.seq (.ops [fA 3 0 1,l1 4 3,bN 5 .geq (.t 4) (cI 1),mT 6 5,gF 7 6 true 0 1,g1 8 6 true 7,gB 9 6 true .leq (.t 8) (cI 4),pA 10 6 9,mT 11 10,gF 12 11 true 0 1,
 g1 13 11 true 12,gB 14 11 true .eql (.t 13) (cI 1),gM 15 11 true 14,gF 16 15 false 2 1,gT 17 15 false 2 16,og 18 15 false (.build [(.int .i64 0),(.int .i64 0)] []),
 og 19 15 false (.bin .eql (.agg [.num,.num]) (.t 17) (.t 18)),og 20 11 true (.pick (.t 15) (cB true) (.t 19)),pA 21 11 20,mT 2 21])
 .ret))}
theorem bNb :L 34=some bAu:=by kernel_rfl
def aL6 :jB:={np:=1,res:=[.tmp 2],keep:=false,body:=
 (.seq (.ops [bX 1 4 0,mC 2 .nili])
 (.seq (.opsP [fA 4 0 1,l1 5 4,bN 6 .geq (.t 5) (cI 1),mT 7 6,gF 8 7 true 0 1,g1 9 7 true 8,gB 10 7 true .leq (.t 9) (cI 4),pA 11 7 10,
 cL 12 61 [(.t 11),(cI 2)]])
 (.seq (.ops [fA 13 1 1,l1 14 13,fA 15 2 1,lT 16 2 15,o 17 (.build [(.int .i64 0),(.int .i64 0),(.int .i64 0)] [(0,1,(.t 14)),(1,2,(.t 16))]),o 18 (.iface 194 (.t 17)),
 fA 19 1 1,l1 20 19,o 21 (.build [(.int .i64 0)] [(0,1,(.t 20))]),o 22 (.iface 196 (.t 21)),fA 23 1 1,l1 24 23,o 25 (.build [(.int .i64 0)] [(0,1,(.t 24))]),
 o 26 (.iface 197 (.t 25)),fA 27 1 1,l1 28 27,o 29 (.build [(.int .i64 0)] [(0,1,(.t 28))]),o 30 (.iface 198 (.t 29)),
 o 31 (.bslice 4 1 [.nili] [(0,(.t 18)),(1,(.t 22)),(2,(.t 26)),(3,(.t 30))]),fA 32 0 1,l1 33 32,bN 34 .sub (.t 33) (cI 1),iA 35 1 31 34,l1 36 35,mT 3 36])
 (.seq (.seq (.ops [mT 37 3])
 (.block 0 (.seq (.ops [o 43 (.assert 194 (.agg [(.int .i64 0),(.int .i64 0),(.int .i64 0)]) true (.t 37)),o 44 (.ext 1 (.t 43)),o 45 (.ext 0 (.t 43))])
 (.cond (.t 44)
 .skip
 (.opsP [fA 38 2 1,lT 39 2 38,o 40 (.build [(.int .i64 0),(.int .i64 0)] []),o 41 (.bin .eql (.agg [.num,.num]) (.t 39) (.t 40)),
 cL 42 61 [(.t 41),(cI 2)]])))))
 (.seq (.ops [mT 46 3,mT 2 46])
 .ret)))))}
theorem bJm :L 90=some aL6:=by kernel_rfl
def aRz :jB:={np:=2,res:=[.tmp 4],keep:=false,body:=
 (.seq (.ops [bX 2 5 0,bX 3 4 1,mC 4 (.bool false)])
 (.seq (.seq (.ops [fA 5 0 3,l1 6 5])
 (.block 0 (.seq (.ops [bN 8 .eql (.t 6) (cI 1),mT 7 8])
 (.cond (.t 7)
 (.seq (.draw [fA 9 1 3,l1 10 9,fA 11 0 2,l1 12 11,lN 13 12,bN 14 .sub (.t 13) (cI 1),cL 15 57 [(.t 10),(cI 0),(.t 14)],mT 16 15,gF 17 16 true 0 2,
 g1 18 16 true 17,gF 19 16 true 1 3,g1 20 16 true 19,og 21 16 true (.ia 4 (.t 18) (.t 20)),gF 22 16 true 0 21,g1 23 16 true 22,gB 24 16 true .eql (.t 23) (cI 3),
 pA 25 16 24,mT 26 25,gF 27 26 true 0 2,g1 28 26 true 27,gF 29 26 true 1 3,g1 30 26 true 29,og 31 26 true (.ia 4 (.t 28) (.t 30)),gF 32 26 true 2 31,g1 33 26 true 32,
 og 34 26 true (.ia 2 (.t 33) (cI 0)),gT 35 26 true 2 34,gF 36 26 true 2 3,gT 37 26 true 2 36,og 38 26 true (.bin .eql (.agg [.num,.num]) (.t 35) (.t 37)),pA 39 26 38,
 mT 4 39]
 [])
 .ret)
 (.seq (.ops [bN 41 .eql (.t 6) (cI 2),mT 40 41])
 (.cond (.t 40)
 (.seq (.ops [fA 42 2 2,l1 43 42,lN 44 43,fA 45 1 3,l1 46 45,bN 47 .geq (.t 44) (.t 46),mT 4 47])
 .ret)
 (.seq (.ops [bN 49 .eql (.t 6) (cI 3),mT 48 49])
 (.cond (.t 48)
 (.seq (.draw [fA 50 1 3,l1 51 50,fA 52 1 2,l1 53 52,lN 54 53,bN 55 .sub (.t 54) (cI 1),cL 56 57 [(.t 51),(cI 0),(.t 55)],mT 57 56,gF 58 57 true 0 2,
 g1 59 57 true 58,gF 60 57 true 1 2,g1 61 57 true 60,gF 62 57 true 1 3,g1 63 57 true 62,og 64 57 true (.ia 1 (.t 61) (.t 63)),g1 65 57 true 64,
 og 66 57 true (.ia 4 (.t 59) (.t 65)),gF 67 57 true 1 66,g1 68 57 true 67,gB 69 57 true .neq (.t 68) (cI 0),pA 70 57 69,mT 4 70]
 [])
 .ret)
 .skip))))))))
 (.seq (.ops [fA 71 0 2,l1 72 71,lN 73 72,fA 74 1 3,l1 75 74,bN 76 .geq (.t 73) (.t 75),mT 4 76])
 .ret)))}
theorem bNc :L 92=some aRz:=by kernel_rfl
def aR0 :jB:={np:=4,res:=[],keep:=false,body:=
 (.seq (.seq (.ops [l1 9 1,l1 10 2,bN 11 .geq (.t 9) (.t 10)])
 (.cond (.t 11)
 .ret
 .skip))
 (.seq (.opsP [l1 12 3,l1 13 1,cL 14 63 [(.t 12),(.t 13)],o 5 (.alloc [(.cl []),(.cl []),(.cl []),(.cl []),(.int .i64 0)]),sT 5 5 14])
 (.seq (.ops [l1 15 1,mT 6 15])
 (.block 0 (.loop (.seq (.seq (.ops [mT 16 6,l1 17 2,bN 18 .lss (.t 16) (.t 17)])
 (.cond (.t 18)
 .skip
 (.exit 0)))
 (.seq (.block 1 (.seq (.seq (.ops [l1 21 3,mT 22 6,cL 23 107 [(.t 21),(.t 22)]])
 (.cond (.t 23)
 (.draw [l1 24 3,nK 25 24,fA 26 0 25,fA 27 2 26,l1 28 27,mT 29 6,l1 30 3,nK 31 30,fA 32 0 31,fA 33 0 32,l1 34 33,bN 35 .quo (.t 29) (.t 34),iA 36 5 28 35,lT 37 5 36,
 sT 5 5 37]
 [])
 .skip))
 (.seq (.drawP [l1 39 3,lT 40 5 5,l1 41 3,nK 42 41,fA 43 0 42,fA 44 1 43,l1 45 44,mT 46 6,iA 47 1 45 46,l1 48 47,cL 49 105 [(.t 39),(.t 40),(.t 48)],
 mT 38 49,o 50 (.ext 0 (.t 38)),o 51 (.ext 1 (.t 38)),o 7 (.alloc [(.cl []),(.cl []),(.cl []),(.cl []),(.int .i64 0)]),
 o 8 (.alloc [(.int .i64 0),(.int .i64 0),(.int .i64 0),(.int .i64 0),(.int .i64 0)]),sT 5 7 50,sT 5 8 51]
 [[],[],[],[2],[3,2],[4,3,2],[5,4,3,2],[],[6,7,5,4,3,2],[8,6,7,5,4,3,2],[0,1,9,8,6,7,5,4,3,2],[10,0,1,9,8,6,7,5,4,3,2],[11,10,0,1,9,8,6,7,5,4,3,2],[11,10,0,1,9,8,6,7,5,4,3,2],[],[],[14,12,10,0,1,2,3,4,5,6,7,8,9,11,15],[15,13,16,0,1,2,3,4,5,6,7,8,9,10,11,12,14]]
 [(0,14),(1,14),(2,14),(6,14),(8,14),(9,14),(10,14),(0,15),(1,15),(2,15),(6,15),(8,15),(9,15),(10,15),(14,15)])
 (.seq (.seq (.ops [mT 52 0,mT 53 6,lT 54 5 5,lT 55 5 7,lT 56 5 8,
 o 57 (.build ([(.cl []),(.cl []),(.cl []),(.cl []),(.int .i64 0),(.cl []),(.cl []),(.cl []),(.cl []),(.int .i64 0),(.int .i64 0),(.int .i64 0),(.int .i64 0),(.int .i64 0),(.int .i64 0)]) [(0,5,(.t 54)),(5,5,(.t 55)),(10,5,(.t 56))]),
 o 58 (.icall (.t 52) [(.t 53),(.t 57)]),nT 59 58])
 (.cond (.t 59)
 .ret
 .skip))
 (.ops [lT 60 5 7,sT 5 5 60])))))
 (.ops [mT 19 6,bN 20 .add (.t 19) (cI 1),mT 6 20]))))))))}
theorem bAv :L 118=some aR0:=by kernel_rfl
def aJ6 :jB:={np:=3,res:=[],keep:=false,body:=
 (.seq (.opsP [l1 6 1,l1 7 2,cL 8 63 [(.t 6),(.t 7)],o 4 (.alloc [(.cl []),(.cl []),(.cl []),(.cl []),(.int .i64 0)]),sT 5 4 8])
 (.seq (.ops [l1 9 2,mT 5 9])
 (.block 0 (.loop (.seq (.seq (.ops [mT 10 5,l1 11 1,nK 12 11,fA 13 0 12,fA 14 1 13,l1 15 14,lN 16 15,bN 17 .leq (.t 10) (.t 16)])
 (.cond (.t 17)
 .skip
 (.exit 0)))
 (.seq (.block 1 (.seq (.block 2 (.seq (.ops [l1 21 1,mT 22 5,cL 23 107 [(.t 21),(.t 22)],mT 20 23])
 (.cond (.t 20)
 (.draw [l1 24 1,nK 25 24,fA 26 0 25,fA 27 2 26,l1 28 27,mT 29 5,l1 30 1,nK 31 30,fA 32 0 31,fA 33 0 32,l1 34 33,bN 35 .quo (.t 29) (.t 34),iA 36 5 28 35,lT 37 5 36,
 sT 5 4 37]
 [])
 (.seq (.ops [mT 39 5,l1 40 2,bN 41 .gtr (.t 39) (.t 40),mT 38 41])
 (.cond (.t 38)
 (.drawP [l1 43 1,lT 44 5 4,l1 45 1,nK 46 45,fA 47 0 46,fA 48 1 47,l1 49 48,mT 50 5,bN 51 .sub (.t 50) (cI 1),iA 52 1 49 51,l1 53 52,
 cL 54 105 [(.t 43),(.t 44),(.t 53)],mT 42 54,o 55 (.ext 0 (.t 42)),o 56 (.ext 1 (.t 42)),sT 5 4 55]
 [[],[],[],[2],[3,2],[4,3,2],[5,4,3,2],[],[7],[6,8,5,4,3,2,7],[9,6,8,5,4,3,2,7],[0,1,10,9,6,8,5,4,3,2,7],[11,0,1,10,9,6,8,5,4,3,2,7],[12,11,0,1,10,9,6,8,5,4,3,2,7],[12,11,0,1,10,9,6,8,5,4,3,2,7],[13,11,0,1,2,3,4,5,6,7,8,9,10,12]]
 [])
 .skip)))))
 (.seq (.ops [mT 57 0,mT 58 5,lT 59 5 4,o 60 (.icall (.t 57) [(.t 58),(.t 59)]),nT 61 60])
 (.cond (.t 61)
 .ret
 .skip))))
 (.ops [mT 18 5,bN 19 .add (.t 18) (cI 1),mT 5 19])))))))}
theorem aM9 :L 133=some aJ6:=by kernel_rfl
def aEp :jB:={np:=6,res:=[.cell 12 true 11],keep:=false,body:=
 (.seq (.ops [bX 6 5 0,bX 10 2 4,bX 11 2 5,
 o 12 (.alloc ([(.cl []),(.cl []),(.cl []),(.cl []),(.int .i64 0),(.int .i64 0),(.int .i64 0),(.int .i64 0),(.int .i64 0),(.int .i64 0),(.int .i64 0)]))])
 (.seq (.seq (.ops [mT 14 3,bN 15 .eql (.t 14) (cI 13)])
 (.cond (.t 15)
 (.seq (.seq (.ops [fA 16 0 10,l1 17 16,fA 18 0 11,l1 19 18,bN 20 .neq (.t 17) (.t 19),mT 21 20,gF 22 21 false 0 10,g1 23 21 false 22,
 gB 24 21 false .gtr (.t 23) (cI 3),pO 25 21 24])
 (.cond (.t 25)
 (.seq (.ops [lT 26 5 6,mT 27 1,cL 28 177 [(.t 26),(.t 27),(cI 2)],sT 11 12 28])
 .ret)
 .skip))
 (.seq (.draw [lT 29 5 6,mT 30 1,mT 31 2,lT 32 2 10,lT 33 2 11,o 34 (.bin .eql (.agg [.num,.num]) (.t 32) (.t 33)),cL 35 179 [(.t 34)],
 cL 36 178 [(.t 29),(.t 30),(.t 31),(.t 35)],sT 11 12 36]
 [(0,6)])
 .ret))
 .skip))
 (.seq (.seq (.ops [fA 37 0 10,l1 38 37,bN 39 .neq (.t 38) (cI 1),mT 40 39,gF 41 40 false 0 11,g1 42 40 false 41,gB 43 40 false .neq (.t 42) (cI 1),pO 44 40 43])
 (.cond (.t 44)
 (.seq (.ops [lT 45 5 6,mT 46 1,cL 47 177 [(.t 45),(.t 46),(cI 2)],sT 11 12 47])
 .ret)
 .skip))
 (.seq (.ops [mC 13 (.int .i64 0)])
 (.seq (.seq (.ops [mT 48 3])
 (.block 0 (.seq (.ops [bN 50 .eql (.t 48) (cI 12),mT 49 50])
 (.cond (.t 49)
 (.seq (.draw [lT 51 5 6,mT 52 1,mT 53 2,fA 54 1 10,l1 55 54,fA 56 1 11,l1 57 56,bN 58 .lss (.t 55) (.t 57),cL 59 179 [(.t 58)],
 cL 60 178 [(.t 51),(.t 52),(.t 53),(.t 59)],sT 11 12 60]
 [(0,8)])
 .ret)
 (.seq (.ops [bN 62 .eql (.t 48) (cI 9),mT 61 62])
 (.cond (.t 61)
 (.ops [fA 63 1 10,l1 64 63,fA 65 1 11,l1 66 65,bN 67 .add (.t 64) (.t 66),mT 13 67])
 (.seq (.ops [bN 69 .eql (.t 48) (cI 10),mT 68 69])
 (.cond (.t 68)
 (.ops [fA 70 1 10,l1 71 70,fA 72 1 11,l1 73 72,bN 74 .sub (.t 71) (.t 73),mT 13 74])
 (.seq (.ops [bN 76 .eql (.t 48) (cI 11),mT 75 76])
 (.cond (.t 75)
 (.ops [fA 77 1 10,l1 78 77,fA 79 1 11,l1 80 79,bN 81 .mul (.t 78) (.t 80),mT 13 81])
 .skip))))))))))
 (.seq (.seq (.ops [mT 82 13,cL 83 101 [(.t 82),(cI (-1000000000)),(cI 1000000000)],nT 84 83])
 (.cond (.t 84)
 (.seq (.ops [lT 85 5 6,mT 86 1,cL 87 177 [(.t 85),(.t 86),(cI 4)],sT 11 12 87])
 .ret)
 .skip))
 (.seq (.draw [lT 88 5 6,mT 89 1,mT 90 2,mT 91 13,cL 92 52 [(.t 91)],cL 93 178 [(.t 88),(.t 89),(.t 90),(.t 92)],sT 11 12 93]
 [(0,4)])
 .ret)))))))}
theorem aHh :L 183=some aEp:=by kernel_rfl
def aCl :jB:={np:=3,res:=[.tmp 6,.tmp 7],keep:=false,body:=
 (.seq (.ops [bX 3 5 0,bX 4 4 1,bX 5 2 2,mC 6 (.cl []),mC 7 (.bool false)])
 (.seq (.seq (.ops [fA 14 0 4,l1 15 14])
 (.block 0 (.seq (.ops [bN 17 .eql (.t 15) (cI 1),mT 16 17])
 (.cond (.t 16)
 (.seq (.ops [mC 6 (.cl []),mC 7 (.bool true)])
 .ret)
 (.seq (.ops [bN 19 .eql (.t 15) (cI 2),mT 18 19])
 (.cond (.t 18)
 (.seq (.ops [lT 20 2 5,o 21 (.bslice 1 2 [(.int .i64 0),(.int .i64 0)] [(0,(.t 20))]),mT 6 21,mC 7 (.bool true)])
 .ret)
 (.seq (.ops [bN 23 .eql (.t 15) (cI 3),mT 22 23])
 (.cond (.t 22)
 (.seq (.draw [lT 24 2 5,fA 25 1 4,l1 26 25,cL 27 52 [(.t 26)],o 28 (.bin .eql (.agg [.num,.num]) (.t 24) (.t 27)),mC 6 (.cl []),mT 7 28]
 [(0,3)])
 .ret)
 (.seq (.ops [bN 30 .eql (.t 15) (cI 4),mT 29 30])
 (.cond (.t 29)
 (.seq (.draw [lT 31 2 5,fA 32 1 4,l1 33 32,bN 34 .eql (.t 33) (cI 1),cL 35 179 [(.t 34)],o 36 (.bin .eql (.agg [.num,.num]) (.t 31) (.t 35)),mC 6 (.cl []),
 mT 7 36]
 [(0,4)])
 .ret)
 (.seq (.ops [bN 38 .eql (.t 15) (cI 5),mT 37 38])
 (.cond (.t 37)
 (.seq (.draw [lT 39 2 5,cL 40 180 [],o 41 (.bin .eql (.agg [.num,.num]) (.t 39) (.t 40)),mC 6 (.cl []),mT 7 41]
 [(0,1)])
 .ret)
 .skip))))))))))))
 (.seq (.ops [lT 43 5 3,lT 44 2 5,cL 45 227 [(.t 43),(.t 44),(cI 1)],mT 42 45,o 46 (.ext 0 (.t 42)),o 47 (.ext 1 (.t 42)),
 o 8 (.alloc [(.int .i64 0),(.int .i64 0),(.cl []),(.cl [])]),sT 4 8 46,mT 9 47])
 (.seq (.seq (.ops [mT 48 9,nT 49 48,mT 50 49,gF 51 50 false 1 8,g1 52 50 false 51,gF 53 50 false 1 4,g1 54 50 false 53,gB 55 50 false .neq (.t 52) (.t 54),pO 56 50 55,
 mT 57 56,gF 58 57 false 2 8,g1 59 57 false 58,gN 60 57 false 59,gF 61 57 false 3 4,g1 62 57 false 61,gN 63 57 false 62,gB 64 57 false .neq (.t 60) (.t 63),
 pO 65 57 64])
 (.cond (.t 65)
 (.seq (.ops [mC 6 (.cl []),mC 7 (.bool false)])
 .ret)
 .skip))
 (.seq (.ops [mC 10 (.cl [])])
 (.seq (.seq (.ops [mC 11 (.int .i64 0)])
 (.block 1 (.loop (.seq (.seq (.ops [mT 66 11,fA 67 3 4,l1 68 67,lN 69 68,bN 70 .lss (.t 66) (.t 69)])
 (.cond (.t 70)
 .skip
 (.exit 1)))
 (.seq (.block 2 (.seq (.draw [lT 74 5 3,fA 75 3 4,l1 76 75,mT 77 11,iA 78 4 76 77,lT 79 4 78,fA 80 2 8,l1 81 80,mT 82 11,iA 83 2 81 82,lT 84 2 83,
 cL 85 229 [(.t 74),(.t 79),(.t 84)],mT 73 85,o 86 (.ext 0 (.t 73)),o 87 (.ext 1 (.t 73)),mT 12 86,mT 13 87]
 [])
 (.seq (.seq (.ops [mT 88 13,nT 89 88])
 (.cond (.t 89)
 (.seq (.ops [mC 6 (.cl []),mC 7 (.bool false)])
 .ret)
 .skip))
 (.ops [mT 90 10,mT 91 12,o 92 (.append 2 (.t 90) (.t 91)),mT 10 92]))))
 (.ops [mT 71 11,bN 72 .add (.t 71) (cI 1),mT 11 72]))))))
 (.seq (.ops [mT 93 10,mT 6 93,mC 7 (.bool true)])
 .ret)))))))}
theorem aEq :L 229=some aCl:=by kernel_rfl
def aHi :jB:={np:=4,res:=[.tmp 8],keep:=false,body:=
 (.seq (.ops [bX 5 4 1,bX 6 2 2,mC 8 (.bool false)])
 (.seq (.seq (.ops [fA 13 0 5,l1 14 13])
 (.block 0 (.seq (.ops [bN 16 .eql (.t 14) (cI 2),mT 15 16])
 (.cond (.t 15)
 (.draw [mT 17 3,mT 18 3,nK 19 18,l1 20 19,lT 21 2 6,o 22 (.bslice 1 2 [(.int .i64 0),(.int .i64 0)] [(0,(.t 21))]),o 23 (.append 2 (.t 20) (.t 22)),nK 24 17,
 sT 1 24 23]
 [(3,5)])
 (.seq (.ops [bN 26 .eql (.t 14) (cI 3),mT 25 26])
 (.cond (.t 25)
 (.seq (.draw [lT 27 2 6,fA 28 1 5,l1 29 28,cL 30 324 [(.t 29)],o 31 (.bin .eql (.agg [.num,.num]) (.t 27) (.t 30)),mT 8 31]
 [(0,3)])
 .ret)
 (.seq (.ops [bN 33 .eql (.t 14) (cI 4),mT 32 33])
 (.cond (.t 32)
 (.seq (.draw [lT 34 2 6,fA 35 1 5,l1 36 35,bN 37 .eql (.t 36) (cI 1),cL 38 325 [(.t 37)],o 39 (.bin .eql (.agg [.num,.num]) (.t 34) (.t 38)),mT 8 39]
 [(0,4)])
 .ret)
 (.seq (.ops [bN 41 .eql (.t 14) (cI 5),mT 40 41])
 (.cond (.t 40)
 (.seq (.draw [lT 42 2 6,cL 43 326 [],o 44 (.bin .eql (.agg [.num,.num]) (.t 42) (.t 43)),mT 8 44]
 [(0,1)])
 .ret)
 (.seq (.ops [bN 46 .eql (.t 14) (cI 6),mT 45 46])
 (.cond (.t 45)
 (.seq (.ops [mT 48 0,lT 49 2 6,o 50 (.icall (.f 359) [(.t 48),(.t 49),(cI 1)]),mT 47 50,o 51 (.ext 0 (.t 47)),o 52 (.ext 1 (.t 47)),
 o 9 (.alloc [(.int .i64 0),(.int .i64 0),(.cl []),(.cl [])]),sT 4 9 51,mT 10 52])
 (.seq (.seq (.ops [mT 53 10,nT 54 53,mT 55 54,gF 56 55 false 1 9,g1 57 55 false 56,gF 58 55 false 1 5,g1 59 55 false 58,gB 60 55 false .neq (.t 57) (.t 59),
 pO 61 55 60,mT 62 61,gF 63 62 false 2 9,g1 64 62 false 63,gN 65 62 false 64,gF 66 62 false 3 5,g1 67 62 false 66,gN 68 62 false 67,gB 69 62 false .neq (.t 65) (.t 68),
 pO 70 62 69])
 (.cond (.t 70)
 (.seq (.ops [mC 8 (.bool false)])
 .ret)
 .skip))
 (.seq (.ops [fA 71 3 5,l1 72 71,lN 73 72,mC 74 (.int .i64 0)])
 (.block 1 (.loop (.seq (.ops [bN 75 .lss (.t 74) (.t 73)])
 (.seq (.cond (.t 75)
 .skip
 (.exit 1))
 (.seq (.block 2 (.seq (.ops [mT 76 74,iA 77 4 72 74,lT 78 4 77,o 12 (.alloc [(.int .i64 0),(.int .i64 0),(.str ⟨#[]⟩),(.cl [])]),mT 11 76,sT 4 12 78])
 (.seq (.draw [mT 79 0,lT 80 4 12,fA 81 2 9,l1 82 81,mT 83 11,iA 84 2 82 83,lT 85 2 84,mT 86 3,o 87 (.icall (.f 332) [(.t 79),(.t 80),(.t 85),(.t 86)]),
 nT 88 87]
 [])
 (.cond (.t 88)
 (.seq (.ops [mC 8 (.bool false)])
 .ret)
 .skip))))
 (.ops [bN 89 .add (.t 74) (cI 1),mT 74 89])))))))))
 .skip))))))))))))
 (.seq (.ops [mC 8 (.bool true)])
 .ret)))}
theorem aNa :L 332=some aHi:=by kernel_rfl
end Go.Proofs.YtmnchlhngpdffaaGreat
