/- What the functions of the program are for the interpreter. -/
import Derived.Test.YtmnchlhngpdffaaGreatRows
import Derived.Test.YtmnchlhngpdffaaGreatHxC
set_option linter.all false
namespace Go.Proofs.YtmnchlhngpdffaaGreat
open Go.Abs Go.Proofs
def bN4 (p f t x:List Nat):Operand->Bool
 | .const (.int .i64 n)=>p.contains n.toNat
 | .func n=>f.contains n
 | .tmp n=>t.contains n
 | .const .nilIface=>x.contains 0
 | .const .nilFunc=>x.contains 1
 | .const (.map none)=>x.contains 2
 | .const (.bool b)=>x.contains (if b then 3 else 4)
 |_=>false
def bN5 :List (Nat×List Nat×List Nat×List Nat×List Nat):=[(11,[55],[],[],[]),(14,[55,61,63],[],[],[]),(15,[55,61],[],[],[]),(16,[55,61,67],[],[],[]),
 (25,[55,61,67,79],[],[],[]),(26,[55,61,63,67,79],[],[],[]),(29,[55,82],[],[],[]),(30,[55,82],[],[],[]),(31,[55,82],[],[],[]),(33,[55,61,90],[],[],[]),
 (37,[61],[],[],[]),(43,[55,61,63,105],[106],[],[]),(44,[55,61],[],[],[]),(53,[],[],[13],[]),(55,[61],[],[],[]),(67,[63,105],[],[],[]),(69,[],[119,121],[],[]),
 (79,[61],[],[],[]),(82,[61],[],[],[]),(90,[61],[],[],[]),(96,[],[119,134],[],[]),(105,[61],[],[],[]),(110,[],[147,148,149],[],[]),(111,[],[155,157],[],[]),
 (115,[],[],[],[5,6]),(116,[],[],[],[5,6]),(117,[],[],[],[5,6]),(118,[63,105],[],[52],[]),(121,[172],[168,172],[],[]),(126,[],[175],[],[]),(133,[63,105],[],[57],[]),
 (134,[],[121],[],[]),(145,[],[119,194],[],[]),(148,[],[196,197,198,199,200],[],[]),(155,[],[207,155],[],[]),(157,[],[210,157],[],[3]),(168,[],[],[],[1]),
 (170,[],[168],[],[]),(172,[220,223],[220,223],[102],[0]),(178,[],[126],[],[]),(181,[],[175,178],[],[]),(185,[],[175],[],[]),(187,[],[181],[],[]),(191,[],[175],[],[]),
 (194,[],[134,121],[],[]),(196,[],[198],[],[]),(197,[],[232],[],[]),(198,[],[233],[],[]),(199,[],[197,196,198,234],[],[]),(200,[],[197,196,234,235],[],[]),
 (207,[],[207],[],[]),(210,[],[210],[],[]),(219,[],[],[],[5,6]),(220,[264],[],[],[1]),(221,[],[],[],[5]),(223,[220],[220],[],[]),(226,[],[],[],[5,6]),
 (230,[],[],[],[5]),(234,[],[293,198,234],[],[]),(235,[],[198,294,197,196,235,295],[],[]),(259,[],[320],[],[]),(265,[],[],[],[5]),(266,[],[323],[],[]),
 (267,[264],[323],[],[]),(268,[327],[327,323],[],[]),(269,[328,220,329],[328,220,329,323],[],[]),(270,[330,223],[223],[],[]),(271,[264,223],[223],[],[]),
 (272,[331,264],[331,323],[],[]),(273,[331],[331,323],[],[]),(274,[264],[323],[],[]),(275,[327],[327,323],[],[]),(276,[330,223],[332,223],[],[]),
 (277,[327],[327,333],[],[]),(278,[329],[329,333],[],[]),(279,[329],[329,334,333],[],[]),(280,[328,329,327],[328,329,327,333],[],[2]),(281,[329],[329,333],[],[]),
 (282,[327],[327,333],[],[]),(283,[329],[329,334,333],[],[]),(284,[329],[329,334,333],[],[]),(285,[264],[333],[],[2]),(286,[264],[333],[],[]),(287,[],[323],[],[]),
 (288,[264,327,330,223],[327,223],[],[]),(289,[],[333],[],[]),(290,[],[121],[],[]),(293,[],[198,344,197,234,196],[],[]),(294,[],[197,196,235],[],[]),
 (295,[],[345,233],[],[]),(321,[],[],[8],[]),(327,[264],[],[],[2]),(328,[330],[359],[],[]),(329,[264],[359],[],[]),(330,[264],[],[],[]),(331,[264],[],[],[]),
 (332,[],[359,332],[],[]),(334,[],[],[],[2]),(335,[],[],[],[5]),(336,[],[],[],[5]),(344,[],[293],[],[]),(345,[],[361,198],[],[]),(358,[],[],[],[5]),
 (361,[],[364,365],[],[]),(364,[],[232,197,233,366,198,367,235,196,368],[],[]),(366,[],[196,235,198],[],[]),(367,[],[235,196,370,198],[],[]),
 (368,[],[366,196,197,235],[],[]),(370,[],[198,232,197,196,370],[],[])]
def cfg (n:Nat):(Operand->Bool)×Bool×Bool:=match bN5.lookup n with
 |some (p,f,t,x)=>(bN4 p f t x,x.contains 5,x.contains 6)
 |none=>(fun _=>false,false,false)
noncomputable def L :bH:=bA3 Tryz.prog cfg
theorem bKi :qK Tryz.prog L:=bDz _ _
theorem at_ {n:Nat}{fn:Func}(h:Tryz.prog.funcs[n]?=some fn):L n=zK Tryz.prog (cfg n).1 (cfg n).2.1 (cfg n).2.2 fn:=bDy h
def C_8 :iW:={np:=5,res:=[.tmp 10],keep:=false,body:=
 (.seq (.ops [bX 5 4 0,bX 6 5 1,bX 7 3 2,mC 10 (.bool false)])
 (.seq (.ops [fA 24 1 7,l1 25 24,lN 26 25,bN 27 .leq (.t 26) (cI 25),mT 28 27,gF 29 28 false 1 7,g1 30 28 false 29,gN 31 28 false 30,
 gB 32 28 false .geq (.t 31) (cI 200),gM 33 28 false 32,gF 34 33 true 1 7,g1 35 33 true 34,gN 36 33 true 35,gB 37 33 true .leq (.t 36) (cI 205),
 og 38 28 false (.pick (.t 33) (.t 37) (cB false)),pO 39 28 38,mT 11 39])
 (.seq (.seq (.ops [mT 40 11,nT 41 40,mT 42 41,gT 43 42 false 4 5,gF 44 42 false 0 7,g1 45 42 false 44,gF 46 42 false 2 7,g1 47 42 false 46,
 og 48 42 false (.build [(.int .i64 0),(.cl []),(.cl [])] [(0,1,(.t 45)),(2,1,(.t 47))]),gL 49 42 false 9 [(.t 43),(.t 48)],og 50 42 false (.un .not (.t 49)),
 pO 51 42 50,mT 52 51,gT 53 52 false 5 6,gL 54 52 false 36 [(.t 53)],og 55 52 false (.un .not (.t 54)),pO 56 52 55])
 (.cond (.t 56)
 (.seq (.ops [cL 57 10 [],mT 10 57])
 .ret)
 .skip))
 (.seq (.ops [lT 59 4 5,lT 60 5 6,mT 61 3,cL 62 37 [(.t 59),(.t 60),(.t 61)],mT 58 62,o 63 (.ext 0 (.t 58)),o 64 (.ext 1 (.t 58)),
 o 12 (.alloc [(.int .i64 0),(.cl []),(.cl [])]),sT 3 12 63,mT 13 64])
 (.seq (.ops [o 65 (.build [(.int .i64 0),(.cl []),(.cl [])] []),o 14 (.alloc [(.int .i64 0),(.cl []),(.cl [])]),sT 3 14 65,mC 15 (.int .i64 2)])
 (.seq (.seq (.ops [lT 66 4 5,cL 67 38 [(.t 66)],mT 68 67,gT 69 68 true 4 5,gT 70 68 true 5 6,gL 71 68 true 39 [(.t 69),(.t 70)],pA 72 68 71,
 mT 73 72,gM 74 73 true 3,gB 75 73 true .geq (.t 74) (cI 1),pA 76 73 75,mT 77 76,gM 78 77 true 3,gB 79 77 true .leq (.t 78) (cI 20),pA 80 77 79])
 (.cond (.t 80)
 (.ops [lT 82 4 5,lT 83 5 6,mT 84 3,cL 85 40 [(.t 82),(.t 83),(.t 84)],mT 81 85,o 86 (.ext 0 (.t 81)),o 87 (.ext 1 (.t 81)),sT 3 14 86,mT 15 87])
 .skip))
 (.seq (.seq (.ops [mT 88 13,mT 89 15,bN 90 .neq (.t 88) (.t 89),mT 91 90,gT 92 91 false 3 12,gT 93 91 false 3 14,gL 94 91 false 41 [(.t 92),(.t 93)],
 og 95 91 false (.un .not (.t 94)),pO 96 91 95])
 (.cond (.t 96)
 (.seq (.ops [mC 10 (.bool false)])
 .ret)
 .skip))
 (.seq (.ops [lT 97 4 5,lT 98 3 7,cL 99 42 [(.t 97),(.t 98)],mT 13 99])
 (.seq (.ops [lT 101 4 5,lT 102 3 7,mT 103 4,cL 104 43 [(.t 101),(.t 102),(.t 103)],mT 100 104,o 105 (.ext 0 (.t 100)),o 106 (.ext 1 (.t 100)),
 o 107 (.ext 2 (.t 100)),o 16 (.alloc [(.int .i64 0),(.cl []),(.cl [])]),o 17 (.alloc [(.int .i64 0),(.int .i64 0),(.int .i64 0),(.int .i64 0),(.int .i64 0)]),
 sT 3 16 105,sT 5 17 106,mT 18 107])
 (.seq (.ops [lT 109 4 5,lT 110 3 7,mT 111 3,cL 112 44 [(.t 109),(.t 110),(.t 111)],mT 108 112,o 113 (.ext 0 (.t 108)),o 114 (.ext 1 (.t 108)),
 o 19 (.alloc [(.int .i64 0),(.cl []),(.cl [])]),sT 3 19 113,mT 20 114])
 (.seq (.seq (.ops [lT 115 4 5,lT 116 3 7,cL 117 12 [(.t 115),(.t 116)],nT 118 117])
 (.cond (.t 118)
 (.seq (.ops [mT 119 13,bN 120 .eql (.t 119) (cI 2),mT 121 120,gT 122 121 true 3 16,gL 123 121 true 45 [(.t 122)],pA 124 121 123,mT 125 124,
 gT 126 125 true 5 17,og 127 125 true (.build [(.int .i64 0),(.int .i64 0),(.int .i64 0),(.int .i64 0),(.int .i64 0)] []),
 og 128 125 true (.bin .eql (.agg [.num,.num,.num,.num,.num]) (.t 126) (.t 127)),pA 129 125 128,mT 130 129,gM 131 130 true 18,gB 132 130 true .eql (.t 131) (cI 2),
 pA 133 130 132,mT 134 133,gT 135 134 true 3 19,gL 136 134 true 45 [(.t 135)],pA 137 134 136,mT 138 137,gM 139 138 true 20,
 gB 140 138 true .eql (.t 139) (cI 2),pA 141 138 140,mT 142 141,gL 143 142 true 10 [],pA 144 142 143,mT 10 144])
 .ret)
 .skip))
 (.seq (.ops [lT 146 4 5,lT 147 3 7,mT 148 4,cL 149 46 [(.t 146),(.t 147),(.t 148)],mT 145 149,o 150 (.ext 0 (.t 145)),o 151 (.ext 1 (.t 145)),
 o 152 (.ext 2 (.t 145)),o 21 (.alloc [(.int .i64 0),(.cl []),(.cl [])]),o 22 (.alloc [(.int .i64 0),(.int .i64 0),(.int .i64 0),(.int .i64 0),(.int .i64 0)]),
 sT 3 21 150,sT 5 22 151,mT 23 152])
 (.seq (.seq (.ops [mT 153 13,bN 154 .neq (.t 153) (cI 0),mT 155 154,gM 156 155 false 18,gM 157 155 false 23,gB 158 155 false .neq (.t 156) (.t 157),pO 159 155 158,
 mT 160 159,gT 161 160 false 3 16,gT 162 160 false 3 21,gL 163 160 false 41 [(.t 161),(.t 162)],og 164 160 false (.un .not (.t 163)),pO 165 160 164,mT 166 165,
 gT 167 166 false 5 17,gT 168 166 false 5 22,og 169 166 false (.bin .neq (.agg [.num,.num,.num,.num,.num]) (.t 167) (.t 168)),pO 170 166 169])
 (.cond (.t 170)
 (.seq (.ops [mC 10 (.bool false)])
 .ret)
 .skip))
 (.seq (.seq (.ops [lT 171 3 7,mT 172 3,cL 173 17 [(.t 171),(.t 172)],nT 174 173])
 (.cond (.t 174)
 (.seq (.ops [mT 175 20,bN 176 .eql (.t 175) (cI 2),mT 177 176,gT 178 177 true 3 19,gL 179 177 true 45 [(.t 178)],pA 180 177 179,mT 181 180,
 gL 182 181 true 10 [],pA 183 181 182,mT 10 183])
 .ret)
 .skip))
 (.seq (.draw [mT 184 20,bN 185 .eql (.t 184) (cI 0),mT 186 185,gT 187 186 true 3 19,gT 188 186 true 3 7,gM 189 186 true 3,
 gL 190 186 true 47 [(.t 188),(.t 189)],gL 191 186 true 41 [(.t 187),(.t 190)],pA 192 186 191,mT 193 192,gL 194 193 true 10 [],pA 195 193 194,
 mT 10 195]
 [(3,6)])
 .ret)))))))))))))))}
theorem L_8 :L 8=some C_8:=by kernel_rfl
def bHr :iW:={np:=2,res:=[.tmp 4],keep:=false,body:=
 (.seq (.ops [mC 4 (.bool false)])
 (.seq (.seq (.ops [mT 6 0,lN 7 6,mT 8 1,lN 9 8,bN 10 .neq (.t 7) (.t 9)])
 (.cond (.t 10)
 (.seq (.ops [mC 4 (.bool false)])
 .ret)
 .skip))
 (.seq (.seq (.ops [mC 5 (.int .i64 0)])
 (.block 0 (.loop (.seq (.seq (.ops [mT 11 5,mT 12 0,lN 13 12,bN 14 .lss (.t 11) (.t 13)])
 (.cond (.t 14)
 .skip
 (.exit 0)))
 (.seq (.block 1 (.seq (.draw [mT 17 0,mT 18 5,iA 19 5 17 18,lT 20 5 19,mT 21 1,mT 22 5,iA 23 5 21 22,lT 24 5 23,
 o 25 (.bin .neq (.agg [.num,.num,.num,.num,.num]) (.t 20) (.t 24))]
 [])
 (.cond (.t 25)
 (.seq (.ops [mC 4 (.bool false)])
 .ret)
 .skip)))
 (.ops [mT 15 5,bN 16 .add (.t 15) (cI 1),mT 5 16]))))))
 (.seq (.ops [mC 4 (.bool true)])
 .ret))))}
theorem bN6 :L 22=some bHr:=by kernel_rfl
def bKj :iW:={np:=3,res:=[.cell 6 true 5,.tmp 7],keep:=false,body:=
 (.seq (.ops [bX 4 5 1,o 6 (.alloc [(.cl []),(.cl []),(.cl []),(.cl []),(.int .i64 0)]),mC 7 (.int .i64 0)])
 (.seq (.ops [mC 8 (.int .i64 0)])
 (.seq .skip
 (.seq (.block 0 (.loop (.seq (.seq (.ops [mT 12 8,fA 13 1 4,l1 14 13,lN 15 14,bN 16 .lss (.t 12) (.t 15)])
 (.cond (.t 16)
 .skip
 (.exit 0)))
 (.block 1 (.seq (.draw [mT 18 0,nK 19 18,fA 20 3 19,lT 21 4 20,lT 22 5 4,mT 23 8,cL 24 69 [(.t 21),(.t 22),(.t 23)],mT 17 24,o 25 (.ext 0 (.t 17)),
 o 26 (.ext 1 (.t 17)),o 27 (.ext 2 (.t 17)),o 9 (.alloc [(.cl []),(.cl []),(.cl []),(.cl []),(.int .i64 0)]),
 o 10 (.alloc [(.int .i64 0),(.int .i64 0),(.int .i64 0),(.int .i64 0),(.int .i64 0)]),sT 5 9 25,sT 5 10 26,mT 11 27]
 [(3,11),(4,11),(6,11),(3,12),(4,12),(6,12),(11,12)])
 (.seq (.block 2 (.seq (.ops [mT 29 11,bN 30 .neq (.t 29) (cI 0),mT 31 30,gT 32 31 false 5 10,
 og 33 31 false (.build [(.int .i64 0),(.int .i64 0),(.int .i64 0),(.int .i64 0),(.int .i64 0)] []),
 og 34 31 false (.bin .neq (.agg [.num,.num,.num,.num,.num]) (.t 32) (.t 33)),pO 35 31 34,mT 28 35])
 (.cond (.t 28)
 (.seq (.ops [mT 36 8,bN 37 .add (.t 36) (cI 1),mT 8 37])
 (.exit 1))
 (.seq (.ops [mT 39 2,bN 40 .eql (.t 39) (cI 0),mT 38 40])
 (.cond (.t 38)
 (.exit 0)
 .skip)))))
 (.seq (.ops [lT 41 5 9,sT 5 4 41])
 (.ops [mT 42 2,bN 43 .sub (.t 42) (cI 1),mT 2 43]))))))))
 (.seq (.ops [lT 44 5 4,mT 45 2,sT 5 6 44,mT 7 45])
 .ret)))))}
theorem bN7 :L 68=some bKj:=by kernel_rfl
def bKk :iW:={np:=2,res:=[.tmp 4],keep:=false,body:=
 (.seq (.ops [mC 4 (.bool false)])
 (.seq (.seq (.ops [mT 6 0,lN 7 6,mT 8 1,lN 9 8,bN 10 .neq (.t 7) (.t 9)])
 (.cond (.t 10)
 (.seq (.ops [mC 4 (.bool false)])
 .ret)
 .skip))
 (.seq (.seq (.ops [mC 5 (.int .i64 0)])
 (.block 0 (.loop (.seq (.seq (.ops [mT 11 5,mT 12 0,lN 13 12,bN 14 .lss (.t 11) (.t 13)])
 (.cond (.t 14)
 .skip
 (.exit 0)))
 (.seq (.block 1 (.seq (.draw [mT 17 0,mT 18 5,iA 19 2 17 18,lT 20 2 19,mT 21 1,mT 22 5,iA 23 2 21 22,lT 24 2 23,o 25 (.bin .neq (.agg [.num,.num]) (.t 20) (.t 24))]
 [])
 (.cond (.t 25)
 (.seq (.ops [mC 4 (.bool false)])
 .ret)
 .skip)))
 (.ops [mT 15 5,bN 16 .add (.t 15) (cI 1),mT 5 16]))))))
 (.seq (.ops [mC 4 (.bool true)])
 .ret))))}
theorem bN8 :L 72=some bKk:=by kernel_rfl
def aS1 :iW:={np:=1,res:=[.cell 2 true 3],keep:=false,body:=
 (.seq (.ops [bX 1 3 0,o 2 (.alloc [(.int .i64 0),(.cl []),(.cl [])])])
 (.seq (.draw [fA 6 0 1,l1 7 6,fA 8 1 1,l1 9 8,cL 10 115 [(.t 9)],o 11 (.build [(.int .i64 0),(.cl []),(.cl [])] [(0,1,(.t 7)),(1,1,(.t 10))]),
 o 3 (.alloc [(.int .i64 0),(.cl []),(.cl [])]),sT 3 3 11]
 [(1,4),(1,6),(3,6),(4,6)])
 (.seq (.seq (.ops [fA 12 2 1,l1 13 12,lN 14 13,mC 15 (.int .i64 0)])
 (.block 0 (.loop (.seq (.ops [bN 16 .lss (.t 15) (.t 14)])
 (.seq (.cond (.t 16)
 .skip
 (.exit 0))
 (.seq (.block 1 (.seq (.ops [iA 17 5 13 15,lT 18 5 17,o 5 (.alloc [(.cl []),(.cl []),(.cl []),(.cl []),(.int .i64 0)]),sT 5 5 18])
 (.draw [fA 19 2 3,l1 20 19,lT 21 5 5,cL 22 62 [(.t 21)],o 23 (.bslice 1 5 [(.cl []),(.cl []),(.cl []),(.cl []),(.int .i64 0)] [(0,(.t 22))]),
 o 24 (.append 5 (.t 20) (.t 23)),fA 25 2 3,sT 1 25 24]
 [(1,3),(1,4)])))
 (.ops [bN 26 .add (.t 15) (cI 1),mT 15 26])))))))
 (.seq (.ops [lT 27 3 3,sT 3 2 27])
 .ret))))}
theorem bF4 :L 106=some aS1:=by kernel_rfl
def aOd :iW:={np:=4,res:=[],keep:=false,body:=
 (.seq (.seq (.ops [l1 9 1,l1 10 2,bN 11 .geq (.t 9) (.t 10)])
 (.cond (.t 11)
 .ret
 .skip))
 (.seq (.opsP [l1 12 3,l1 13 1,cL 14 63 [(.t 12),(.t 13)],o 5 (.alloc [(.cl []),(.cl []),(.cl []),(.cl []),(.int .i64 0)]),sT 5 5 14])
 (.seq (.ops [l1 15 1,mT 6 15])
 (.block 0 (.loop (.seq (.seq (.ops [mT 16 6,l1 17 2,bN 18 .lss (.t 16) (.t 17)])
 (.cond (.t 18)
 .skip
 (.exit 0)))
 (.seq (.block 1 (.seq (.seq (.ops [l1 21 3,mT 22 6,cL 23 107 [(.t 21),(.t 22)]])
 (.cond (.t 23)
 (.draw [l1 24 3,nK 25 24,fA 26 0 25,fA 27 2 26,l1 28 27,mT 29 6,l1 30 3,nK 31 30,fA 32 0 31,fA 33 0 32,l1 34 33,bN 35 .quo (.t 29) (.t 34),iA 36 5 28 35,lT 37 5 36,
 sT 5 5 37]
 [])
 .skip))
 (.seq (.drawP [l1 39 3,lT 40 5 5,l1 41 3,nK 42 41,fA 43 0 42,fA 44 1 43,l1 45 44,mT 46 6,iA 47 1 45 46,l1 48 47,cL 49 105 [(.t 39),(.t 40),(.t 48)],
 mT 38 49,o 50 (.ext 0 (.t 38)),o 51 (.ext 1 (.t 38)),o 7 (.alloc [(.cl []),(.cl []),(.cl []),(.cl []),(.int .i64 0)]),
 o 8 (.alloc [(.int .i64 0),(.int .i64 0),(.int .i64 0),(.int .i64 0),(.int .i64 0)]),sT 5 7 50,sT 5 8 51]
 [[],[],[],[2],[3,2],[4,3,2],[5,4,3,2],[],[6,7,5,4,3,2],[8,6,7,5,4,3,2],[0,1,9,8,6,7,5,4,3,2],[10,0,1,9,8,6,7,5,4,3,2],[11,10,0,1,9,8,6,7,5,4,3,2],[11,10,0,1,9,8,6,7,5,4,3,2],[],[],[14,12,10,0,1,2,3,4,5,6,7,8,9,11,15],[15,13,16,0,1,2,3,4,5,6,7,8,9,10,11,12,14]]
 [(0,14),(1,14),(2,14),(6,14),(8,14),(9,14),(10,14),(0,15),(1,15),(2,15),(6,15),(8,15),(9,15),(10,15),(14,15)])
 (.seq (.seq (.ops [mT 52 0,mT 53 6,lT 54 5 5,lT 55 5 7,lT 56 5 8,
 o 57 (.build ([(.cl []),(.cl []),(.cl []),(.cl []),(.int .i64 0),(.cl []),(.cl []),(.cl []),(.cl []),(.int .i64 0),(.int .i64 0),(.int .i64 0),(.int .i64 0),(.int .i64 0),(.int .i64 0)]) [(0,5,(.t 54)),(5,5,(.t 55)),(10,5,(.t 56))]),
 o 58 (.icall (.t 52) [(.t 53),(.t 57)]),nT 59 58])
 (.cond (.t 59)
 .ret
 .skip))
 (.ops [lT 60 5 7,sT 5 5 60])))))
 (.ops [mT 19 6,bN 20 .add (.t 19) (cI 1),mT 6 20]))))))))}
theorem aS2 :L 118=some aOd:=by kernel_rfl
def bF5 :iW:={np:=2,res:=[.tmp 4],keep:=false,body:=
 (.seq (.ops [mC 4 (.bool false)])
 (.seq (.seq (.ops [mT 6 0,lN 7 6,mT 8 1,lN 9 8,bN 10 .neq (.t 7) (.t 9)])
 (.cond (.t 10)
 (.seq (.ops [mC 4 (.bool false)])
 .ret)
 .skip))
 (.seq (.seq (.ops [mC 5 (.int .i64 0)])
 (.block 0 (.loop (.seq (.seq (.ops [mT 11 5,mT 12 0,lN 13 12,bN 14 .lss (.t 11) (.t 13)])
 (.cond (.t 14)
 .skip
 (.exit 0)))
 (.seq (.block 1 (.seq (.draw [mT 17 0,mT 18 5,iA 19 2 17 18,lT 20 2 19,mT 21 1,mT 22 5,iA 23 2 21 22,lT 24 2 23,o 25 (.bin .neq (.agg [.num,.num]) (.t 20) (.t 24))]
 [])
 (.cond (.t 25)
 (.seq (.ops [mC 4 (.bool false)])
 .ret)
 .skip)))
 (.ops [mT 15 5,bN 16 .add (.t 15) (cI 1),mT 5 16]))))))
 (.seq (.ops [mC 4 (.bool true)])
 .ret))))}
theorem bKl :L 125=some bF5:=by kernel_rfl
def aFq :iW:={np:=6,res:=[.cell 12 true 11],keep:=false,body:=
 (.seq (.ops [bX 6 5 0,bX 10 2 4,bX 11 2 5,
 o 12 (.alloc ([(.cl []),(.cl []),(.cl []),(.cl []),(.int .i64 0),(.int .i64 0),(.int .i64 0),(.int .i64 0),(.int .i64 0),(.int .i64 0),(.int .i64 0)]))])
 (.seq (.seq (.ops [mT 14 3,bN 15 .eql (.t 14) (cI 13)])
 (.cond (.t 15)
 (.seq (.seq (.ops [fA 16 0 10,l1 17 16,fA 18 0 11,l1 19 18,bN 20 .neq (.t 17) (.t 19),mT 21 20,gF 22 21 false 0 10,g1 23 21 false 22,
 gB 24 21 false .gtr (.t 23) (cI 3),pO 25 21 24])
 (.cond (.t 25)
 (.seq (.ops [lT 26 5 6,mT 27 1,cL 28 177 [(.t 26),(.t 27),(cI 2)],sT 11 12 28])
 .ret)
 .skip))
 (.seq (.draw [lT 29 5 6,mT 30 1,mT 31 2,lT 32 2 10,lT 33 2 11,o 34 (.bin .eql (.agg [.num,.num]) (.t 32) (.t 33)),cL 35 179 [(.t 34)],
 cL 36 178 [(.t 29),(.t 30),(.t 31),(.t 35)],sT 11 12 36]
 [(0,6)])
 .ret))
 .skip))
 (.seq (.seq (.ops [fA 37 0 10,l1 38 37,bN 39 .neq (.t 38) (cI 1),mT 40 39,gF 41 40 false 0 11,g1 42 40 false 41,gB 43 40 false .neq (.t 42) (cI 1),pO 44 40 43])
 (.cond (.t 44)
 (.seq (.ops [lT 45 5 6,mT 46 1,cL 47 177 [(.t 45),(.t 46),(cI 2)],sT 11 12 47])
 .ret)
 .skip))
 (.seq (.ops [mC 13 (.int .i64 0)])
 (.seq (.seq (.ops [mT 48 3])
 (.block 0 (.seq (.ops [bN 50 .eql (.t 48) (cI 12),mT 49 50])
 (.cond (.t 49)
 (.seq (.draw [lT 51 5 6,mT 52 1,mT 53 2,fA 54 1 10,l1 55 54,fA 56 1 11,l1 57 56,bN 58 .lss (.t 55) (.t 57),cL 59 179 [(.t 58)],
 cL 60 178 [(.t 51),(.t 52),(.t 53),(.t 59)],sT 11 12 60]
 [(0,8)])
 .ret)
 (.seq (.ops [bN 62 .eql (.t 48) (cI 9),mT 61 62])
 (.cond (.t 61)
 (.ops [fA 63 1 10,l1 64 63,fA 65 1 11,l1 66 65,bN 67 .add (.t 64) (.t 66),mT 13 67])
 (.seq (.ops [bN 69 .eql (.t 48) (cI 10),mT 68 69])
 (.cond (.t 68)
 (.ops [fA 70 1 10,l1 71 70,fA 72 1 11,l1 73 72,bN 74 .sub (.t 71) (.t 73),mT 13 74])
 (.seq (.ops [bN 76 .eql (.t 48) (cI 11),mT 75 76])
 (.cond (.t 75)
 (.ops [fA 77 1 10,l1 78 77,fA 79 1 11,l1 80 79,bN 81 .mul (.t 78) (.t 80),mT 13 81])
 .skip))))))))))
 (.seq (.seq (.ops [mT 82 13,cL 83 101 [(.t 82),(cI (-1000000000)),(cI 1000000000)],nT 84 83])
 (.cond (.t 84)
 (.seq (.ops [lT 85 5 6,mT 86 1,cL 87 177 [(.t 85),(.t 86),(cI 4)],sT 11 12 87])
 .ret)
 .skip))
 (.seq (.draw [lT 88 5 6,mT 89 1,mT 90 2,mT 91 13,cL 92 52 [(.t 91)],cL 93 178 [(.t 88),(.t 89),(.t 90),(.t 92)],sT 11 12 93]
 [(0,4)])
 .ret)))))))}
theorem aIl :L 183=some aFq:=by kernel_rfl
def aDq :iW:={np:=3,res:=[.tmp 6,.tmp 7],keep:=false,body:=
 (.seq (.ops [bX 3 5 0,bX 4 4 1,bX 5 2 2,mC 6 (.cl []),mC 7 (.bool false)])
 (.seq (.seq (.ops [fA 14 0 4,l1 15 14])
 (.block 0 (.seq (.ops [bN 17 .eql (.t 15) (cI 1),mT 16 17])
 (.cond (.t 16)
 (.seq (.ops [mC 6 (.cl []),mC 7 (.bool true)])
 .ret)
 (.seq (.ops [bN 19 .eql (.t 15) (cI 2),mT 18 19])
 (.cond (.t 18)
 (.seq (.ops [lT 20 2 5,o 21 (.bslice 1 2 [(.int .i64 0),(.int .i64 0)] [(0,(.t 20))]),mT 6 21,mC 7 (.bool true)])
 .ret)
 (.seq (.ops [bN 23 .eql (.t 15) (cI 3),mT 22 23])
 (.cond (.t 22)
 (.seq (.draw [lT 24 2 5,fA 25 1 4,l1 26 25,cL 27 52 [(.t 26)],o 28 (.bin .eql (.agg [.num,.num]) (.t 24) (.t 27)),mC 6 (.cl []),mT 7 28]
 [(0,3)])
 .ret)
 (.seq (.ops [bN 30 .eql (.t 15) (cI 4),mT 29 30])
 (.cond (.t 29)
 (.seq (.draw [lT 31 2 5,fA 32 1 4,l1 33 32,bN 34 .eql (.t 33) (cI 1),cL 35 179 [(.t 34)],o 36 (.bin .eql (.agg [.num,.num]) (.t 31) (.t 35)),mC 6 (.cl []),
 mT 7 36]
 [(0,4)])
 .ret)
 (.seq (.ops [bN 38 .eql (.t 15) (cI 5),mT 37 38])
 (.cond (.t 37)
 (.seq (.draw [lT 39 2 5,cL 40 180 [],o 41 (.bin .eql (.agg [.num,.num]) (.t 39) (.t 40)),mC 6 (.cl []),mT 7 41]
 [(0,1)])
 .ret)
 .skip))))))))))))
 (.seq (.ops [lT 43 5 3,lT 44 2 5,cL 45 227 [(.t 43),(.t 44),(cI 1)],mT 42 45,o 46 (.ext 0 (.t 42)),o 47 (.ext 1 (.t 42)),
 o 8 (.alloc [(.int .i64 0),(.int .i64 0),(.cl []),(.cl [])]),sT 4 8 46,mT 9 47])
 (.seq (.seq (.ops [mT 48 9,nT 49 48,mT 50 49,gF 51 50 false 1 8,g1 52 50 false 51,gF 53 50 false 1 4,g1 54 50 false 53,gB 55 50 false .neq (.t 52) (.t 54),pO 56 50 55,
 mT 57 56,gF 58 57 false 2 8,g1 59 57 false 58,gN 60 57 false 59,gF 61 57 false 3 4,g1 62 57 false 61,gN 63 57 false 62,gB 64 57 false .neq (.t 60) (.t 63),
 pO 65 57 64])
 (.cond (.t 65)
 (.seq (.ops [mC 6 (.cl []),mC 7 (.bool false)])
 .ret)
 .skip))
 (.seq (.ops [mC 10 (.cl [])])
 (.seq (.seq (.ops [mC 11 (.int .i64 0)])
 (.block 1 (.loop (.seq (.seq (.ops [mT 66 11,fA 67 3 4,l1 68 67,lN 69 68,bN 70 .lss (.t 66) (.t 69)])
 (.cond (.t 70)
 .skip
 (.exit 1)))
 (.seq (.block 2 (.seq (.draw [lT 74 5 3,fA 75 3 4,l1 76 75,mT 77 11,iA 78 4 76 77,lT 79 4 78,fA 80 2 8,l1 81 80,mT 82 11,iA 83 2 81 82,lT 84 2 83,
 cL 85 229 [(.t 74),(.t 79),(.t 84)],mT 73 85,o 86 (.ext 0 (.t 73)),o 87 (.ext 1 (.t 73)),mT 12 86,mT 13 87]
 [])
 (.seq (.seq (.ops [mT 88 13,nT 89 88])
 (.cond (.t 89)
 (.seq (.ops [mC 6 (.cl []),mC 7 (.bool false)])
 .ret)
 .skip))
 (.ops [mT 90 10,mT 91 12,o 92 (.append 2 (.t 90) (.t 91)),mT 10 92]))))
 (.ops [mT 71 11,bN 72 .add (.t 71) (cI 1),mT 11 72]))))))
 (.seq (.ops [mT 93 10,mT 6 93,mC 7 (.bool true)])
 .ret)))))))}
theorem aFr :L 229=some aDq:=by kernel_rfl
def aIm :iW:={np:=4,res:=[.tmp 8],keep:=false,body:=
 (.seq (.ops [bX 5 4 1,bX 6 2 2,mC 8 (.bool false)])
 (.seq (.seq (.ops [fA 13 0 5,l1 14 13])
 (.block 0 (.seq (.ops [bN 16 .eql (.t 14) (cI 2),mT 15 16])
 (.cond (.t 15)
 (.draw [mT 17 3,mT 18 3,nK 19 18,l1 20 19,lT 21 2 6,o 22 (.bslice 1 2 [(.int .i64 0),(.int .i64 0)] [(0,(.t 21))]),o 23 (.append 2 (.t 20) (.t 22)),nK 24 17,
 sT 1 24 23]
 [(3,5)])
 (.seq (.ops [bN 26 .eql (.t 14) (cI 3),mT 25 26])
 (.cond (.t 25)
 (.seq (.draw [lT 27 2 6,fA 28 1 5,l1 29 28,cL 30 324 [(.t 29)],o 31 (.bin .eql (.agg [.num,.num]) (.t 27) (.t 30)),mT 8 31]
 [(0,3)])
 .ret)
 (.seq (.ops [bN 33 .eql (.t 14) (cI 4),mT 32 33])
 (.cond (.t 32)
 (.seq (.draw [lT 34 2 6,fA 35 1 5,l1 36 35,bN 37 .eql (.t 36) (cI 1),cL 38 325 [(.t 37)],o 39 (.bin .eql (.agg [.num,.num]) (.t 34) (.t 38)),mT 8 39]
 [(0,4)])
 .ret)
 (.seq (.ops [bN 41 .eql (.t 14) (cI 5),mT 40 41])
 (.cond (.t 40)
 (.seq (.draw [lT 42 2 6,cL 43 326 [],o 44 (.bin .eql (.agg [.num,.num]) (.t 42) (.t 43)),mT 8 44]
 [(0,1)])
 .ret)
 (.seq (.ops [bN 46 .eql (.t 14) (cI 6),mT 45 46])
 (.cond (.t 45)
 (.seq (.ops [mT 48 0,lT 49 2 6,o 50 (.icall (.f 359) [(.t 48),(.t 49),(cI 1)]),mT 47 50,o 51 (.ext 0 (.t 47)),o 52 (.ext 1 (.t 47)),
 o 9 (.alloc [(.int .i64 0),(.int .i64 0),(.cl []),(.cl [])]),sT 4 9 51,mT 10 52])
 (.seq (.seq (.ops [mT 53 10,nT 54 53,mT 55 54,gF 56 55 false 1 9,g1 57 55 false 56,gF 58 55 false 1 5,g1 59 55 false 58,gB 60 55 false .neq (.t 57) (.t 59),
 pO 61 55 60,mT 62 61,gF 63 62 false 2 9,g1 64 62 false 63,gN 65 62 false 64,gF 66 62 false 3 5,g1 67 62 false 66,gN 68 62 false 67,gB 69 62 false .neq (.t 65) (.t 68),
 pO 70 62 69])
 (.cond (.t 70)
 (.seq (.ops [mC 8 (.bool false)])
 .ret)
 .skip))
 (.seq (.ops [fA 71 3 5,l1 72 71,lN 73 72,mC 74 (.int .i64 0)])
 (.block 1 (.loop (.seq (.ops [bN 75 .lss (.t 74) (.t 73)])
 (.seq (.cond (.t 75)
 .skip
 (.exit 1))
 (.seq (.block 2 (.seq (.ops [mT 76 74,iA 77 4 72 74,lT 78 4 77,o 12 (.alloc [(.int .i64 0),(.int .i64 0),(.str ⟨#[]⟩),(.cl [])]),mT 11 76,sT 4 12 78])
 (.seq (.draw [mT 79 0,lT 80 4 12,fA 81 2 9,l1 82 81,mT 83 11,iA 84 2 82 83,lT 85 2 84,mT 86 3,o 87 (.icall (.f 332) [(.t 79),(.t 80),(.t 85),(.t 86)]),
 nT 88 87]
 [])
 (.cond (.t 88)
 (.seq (.ops [mC 8 (.bool false)])
 .ret)
 .skip))))
 (.ops [bN 89 .add (.t 74) (cI 1),mT 74 89])))))))))
 .skip))))))))))))
 (.seq (.ops [mC 8 (.bool true)])
 .ret)))}
theorem aOe :L 332=some aIm:=by kernel_rfl
end Go.Proofs.YtmnchlhngpdffaaGreat
