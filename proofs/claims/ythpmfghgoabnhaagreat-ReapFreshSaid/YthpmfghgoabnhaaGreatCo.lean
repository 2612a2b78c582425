/- The interpreter's text of the functions that are reached: made by program. -/
import Derived.Test.YthpmfghgoabnhaaGreatRows
import Derived.Test.YthpmfghgoabnhaaGreatHxC
set_option linter.all false
open List renaming mem_cons → bYe
namespace Go.Proofs.YthpmfghgoabnhaaGreat
open Go.Abs Go.Proofs
def aMy :aM:={np:=5,res:=[.tmp 10],keep:=false,body:=
 (.seq (.ops [bX 5 4 0,bX 6 5 1,mC 10 (.bool false)])
 (.seq (.seq (.ops [lT 35 4 5,lT 36 5 6,cL 37 16 [(.t 35),(.t 36)],nT 38 37,mT 39 38,gT 40 39 false 4 5,gT 41 39 false 5 6,
 gL 42 39 false 20 [(.t 40),(.t 41)],og 43 39 false (.un .not (.t 42)),pO 44 39 43,mT 45 44,gM 46 45 false 2,gN 47 45 false 46,
 gB 48 45 false .gtr (.t 47) (cI 12),pO 49 45 48,mT 50 49,gM 51 50 false 3,gL 52 50 false 42 [(.t 51)],og 53 50 false (.un .not (.t 52)),pO 54 50 53])
 (.cond (.t 54)
 (.seq (.ops [cL 55 17 [],mT 10 55])
 .ret)
 .skip))
 (.seq (.ops [lT 57 4 5,lT 58 5 6,cL 59 30 [(.t 57),(.t 58)],mT 56 59,o 60 (.ext 0 (.t 56)),o 61 (.ext 1 (.t 56)),
 o 11 (.alloc [(.cl []),(.cl []),(.cl []),(.cl []),(.int .i64 0),(.cl []),(.cl []),(.int .i64 0)]),sT 8 11 60,mT 12 61])
 (.seq (.seq (.ops [mT 62 12,bN 63 .neq (.t 62) (cI 0),mT 64 63,gT 65 64 false 4 5,gT 66 64 false 8 11,gL 67 64 false 48 [(.t 65),(.t 66)],
 og 68 64 false (.un .not (.t 67)),pO 69 64 68])
 (.cond (.t 69)
 (.seq (.ops [mC 10 (.bool false)])
 .ret)
 .skip))
 (.seq (.seq (.ops [mC 70 (.int .i64 0)])
 (.block 0 (.loop (.seq (.ops [bN 71 .lss (.t 70) (cI 1000)])
 (.seq (.cond (.t 71)
 .skip
 (.exit 0))
 (.seq (.block 1 (.seq (.ops [lT 73 4 5,lT 74 8 11,mT 75 3,cL 76 41 [(.t 73),(.t 74),(.t 75)],mT 72 76,o 77 (.ext 0 (.t 72)),o 78 (.ext 1 (.t 72)),
 o 79 (.ext 2 (.t 72)),o 80 (.ext 3 (.t 72)),o 13 (.alloc [(.cl []),(.cl []),(.cl []),(.cl []),(.int .i64 0),(.cl []),(.cl []),(.int .i64 0)]),sT 8 13 77,mT 14 78,
 mT 15 79,mT 16 80])
 (.seq (.seq (.ops [mT 81 16,bN 82 .neq (.t 81) (cI 0),mT 83 82,gT 84 83 false 4 5,gT 85 83 false 8 13,gL 86 83 false 48 [(.t 84),(.t 85)],
 og 87 83 false (.un .not (.t 86)),pO 88 83 87])
 (.cond (.t 88)
 (.seq (.ops [mC 10 (.bool false)])
 .ret)
 .skip))
 (.seq (.ops [lT 89 8 13,sT 8 11 89])
 (.seq (.ops [mT 90 15,mT 91 90,gF 92 91 true 7 11,g1 93 91 true 92,gB 94 91 true .eql (.t 93) (cI 3),pA 95 91 94])
 (.cond (.t 95)
 (.exit 0)
 .skip))))))
 (.ops [bN 96 .add (.t 70) (cI 1),mT 70 96])))))))
 (.seq (.seq (.ops [fA 97 7 11,l1 98 97,bN 99 .neq (.t 98) (cI 3)])
 (.cond (.t 99)
 (.seq (.ops [mC 10 (.bool false)])
 .ret)
 .skip))
 (.seq (.ops [fA 100 0 11,lT 101 5 100,cL 102 24 [(.t 101)],mT 17 102])
 (.seq (.seq (.ops [mT 103 2,mT 104 4,o 105 (.wrap .i64 (.t 104)),mT 106 2,lN 107 106,bN 108 .add (.t 107) (cI 1),bN 109 .rem (.t 105) (.t 108),
 o 110 (.slice false 1 (.t 103) none (some (.t 109)) none),lN 111 110,mC 112 (.int .i64 0)])
 (.block 2 (.loop (.seq (.ops [bN 113 .lss (.t 112) (.t 111)])
 (.seq (.cond (.t 113)
 .skip
 (.exit 2))
 (.seq (.block 3 (.seq (.ops [iA 114 1 110 112,l1 115 114,mT 19 115])
 (.seq (.ops [lT 117 4 5,fA 118 0 11,lT 119 5 118,mT 120 19,cL 121 47 [(.t 117),(.t 119),(.t 120)],mT 116 121,o 122 (.ext 0 (.t 116)),o 123 (.ext 1 (.t 116)),
 o 124 (.ext 2 (.t 116)),o 125 (.ext 3 (.t 116)),o 20 (.alloc [(.cl []),(.cl []),(.cl []),(.cl []),(.int .i64 0)]),
 o 21 (.alloc [(.int .i64 0),(.int .i64 0),(.int .i64 0),(.int .i64 0),(.int .i64 0)]),sT 5 20 122,sT 5 21 123,mT 22 124,mT 23 125])
 (.seq (.seq (.ops [mT 126 23,bN 127 .eql (.t 126) (cI 8)])
 (.cond (.t 127)
 (.seq (.ops [cL 128 17 [],mT 10 128])
 .ret)
 .skip))
 (.seq (.seq (.ops [mT 129 23,bN 130 .eql (.t 129) (cI 0)])
 (.cond (.t 130)
 (.seq (.ops [lT 132 4 5,lT 133 8 11,lT 134 5 20,cL 135 36 [(.t 132),(.t 133),(.t 134)],mT 131 135,o 136 (.ext 0 (.t 131)),o 137 (.ext 1 (.t 131)),
 o 138 (.ext 2 (.t 131)),o 24 (.alloc [(.cl []),(.cl []),(.cl []),(.cl []),(.int .i64 0),(.cl []),(.cl []),(.int .i64 0)]),sT 8 24 136,mT 25 137,mT 26 138])
 (.seq (.seq (.ops [mT 139 26,bN 140 .neq (.t 139) (cI 0),mT 141 140,gT 142 141 false 4 5,gT 143 141 false 8 24,gL 144 141 false 48 [(.t 142),(.t 143)],
 og 145 141 false (.un .not (.t 144)),pO 146 141 145])
 (.cond (.t 146)
 (.seq (.ops [mC 10 (.bool false)])
 .ret)
 .skip))
 (.ops [lT 147 8 24,sT 8 11 147])))
 .skip))
 (.seq (.ops [lT 149 4 5,lT 150 8 11,mT 151 3,cL 152 41 [(.t 149),(.t 150),(.t 151)],mT 148 152,o 153 (.ext 0 (.t 148)),o 154 (.ext 1 (.t 148)),
 o 155 (.ext 2 (.t 148)),o 156 (.ext 3 (.t 148)),o 27 (.alloc [(.cl []),(.cl []),(.cl []),(.cl []),(.int .i64 0),(.cl []),(.cl []),(.int .i64 0)]),sT 8 27 153,
 mT 28 154,mT 29 155,mT 30 156])
 (.seq (.seq (.ops [mT 157 30,bN 158 .neq (.t 157) (cI 0),mT 159 158,gT 160 159 false 4 5,gT 161 159 false 8 27,gL 162 159 false 48 [(.t 160),(.t 161)],
 og 163 159 false (.un .not (.t 162)),pO 164 159 163])
 (.cond (.t 164)
 (.seq (.ops [mC 10 (.bool false)])
 .ret)
 .skip))
 (.seq (.ops [lT 165 8 27,sT 8 11 165])
 (.seq (.ops [mT 166 29])
 (.cond (.t 166)
 (.seq (.ops [mT 167 17,mT 168 28,cL 169 51 [(.t 167),(.t 168)],mT 170 169,gL 171 170 true 17 [],pA 172 170 171,mT 10 172])
 .ret)
 .skip))))))))))
 (.ops [bN 173 .add (.t 112) (cI 1),mT 112 173])))))))
 (.seq (.seq (.ops [mC 174 (.int .i64 0)])
 (.block 4 (.loop (.seq (.ops [bN 175 .lss (.t 174) (cI 200)])
 (.seq (.cond (.t 175)
 .skip
 (.exit 4))
 (.seq (.block 5 (.seq (.ops [lT 177 4 5,lT 178 8 11,mT 179 3,cL 180 41 [(.t 177),(.t 178),(.t 179)],mT 176 180,o 181 (.ext 0 (.t 176)),
 o 182 (.ext 1 (.t 176)),o 183 (.ext 2 (.t 176)),o 184 (.ext 3 (.t 176)),
 o 31 (.alloc [(.cl []),(.cl []),(.cl []),(.cl []),(.int .i64 0),(.cl []),(.cl []),(.int .i64 0)]),sT 8 31 181,mT 32 182,mT 33 183,mT 34 184])
 (.seq (.seq (.ops [mT 185 34,bN 186 .neq (.t 185) (cI 0),mT 187 186,gT 188 187 false 4 5,gT 189 187 false 8 31,gL 190 187 false 48 [(.t 188),(.t 189)],
 og 191 187 false (.un .not (.t 190)),pO 192 187 191])
 (.cond (.t 192)
 (.seq (.ops [mC 10 (.bool false)])
 .ret)
 .skip))
 (.seq (.ops [lT 193 8 31,sT 8 11 193])
 (.seq (.ops [mT 194 33])
 (.cond (.t 194)
 (.seq (.ops [mT 195 17,mT 196 32,cL 197 51 [(.t 195),(.t 196)],mT 198 197,gL 199 198 true 17 [],pA 200 198 199,mT 10 200])
 .ret)
 .skip))))))
 (.ops [bN 201 .add (.t 174) (cI 1),mT 174 201])))))))
 (.seq (.ops [mC 10 (.bool false)])
 .ret))))))))))}
def bB8 :aM:={np:=2,res:=[.tmp 4],keep:=false,body:=
 (.seq (.ops [bX 2 4 0,bX 3 5 1,mC 4 (.bool false)])
 (.seq (.ops [lT 5 4 2,cL 6 40 [(.t 5)],mT 7 6,gT 8 7 true 5 3,gL 9 7 true 57 [(.t 8)],pA 10 7 9,mT 4 10])
 .ret))}
def bFw :aM:={np:=0,res:=[.tmp 0],keep:=false,body:=
 (.seq (.ops [mC 0 (.bool false)])
 (.seq (.ops [cL 25 58 [],cL 26 59 [],cL 27 18 [(.t 25),(.t 26)],mT 24 27,o 28 (.ext 0 (.t 24)),o 29 (.ext 1 (.t 24)),mT 1 28,mT 2 29])
 (.seq (.ops [cL 31 58 [],cL 32 60 [],o 33 (.bslice 2 1 [(.int .i64 0)] [(0,(cI 0)),(1,(cI 2))]),cL 34 19 [(.t 31),(.t 32),(.t 33)],mT 30 34,
 o 35 (.ext 0 (.t 30)),o 36 (.ext 1 (.t 30)),o 3 (.alloc [(.cl []),(.cl []),(.cl []),(.cl []),(.int .i64 0)]),sT 5 3 35,mT 4 36])
 (.seq (.ops [cL 38 58 [],cL 39 60 [],o 40 (.bslice 2 1 [(.int .i64 0)] [(0,(cI 0)),(1,(cI 1))]),cL 41 19 [(.t 38),(.t 39),(.t 40)],mT 37 41,
 o 42 (.ext 0 (.t 37)),o 43 (.ext 1 (.t 37)),o 5 (.alloc [(.cl []),(.cl []),(.cl []),(.cl []),(.int .i64 0)]),sT 5 5 42,mT 6 43])
 (.seq (.ops [cL 45 58 [],cL 46 60 [],cL 47 30 [(.t 45),(.t 46)],mT 44 47,o 48 (.ext 0 (.t 44)),o 49 (.ext 1 (.t 44)),
 o 7 (.alloc [(.cl []),(.cl []),(.cl []),(.cl []),(.int .i64 0),(.cl []),(.cl []),(.int .i64 0)]),sT 8 7 48,mT 8 49])
 (.seq (.draw [cL 51 58 [],lT 52 8 7,cL 53 41 [(.t 51),(.t 52),(cI 1)],mT 50 53,o 54 (.ext 0 (.t 50)),o 55 (.ext 1 (.t 50)),o 56 (.ext 2 (.t 50)),
 o 57 (.ext 3 (.t 50)),o 9 (.alloc [(.cl []),(.cl []),(.cl []),(.cl []),(.int .i64 0),(.cl []),(.cl []),(.int .i64 0)]),sT 8 9 54,mT 10 55,mT 11 56,mT 12 57]
 [(0,1),(0,8),(1,8),(2,8)])
 (.seq (.draw [cL 59 58 [],lT 60 8 7,cL 61 41 [(.t 59),(.t 60),(cI 2)],mT 58 61,o 62 (.ext 0 (.t 58)),o 63 (.ext 1 (.t 58)),o 64 (.ext 2 (.t 58)),
 o 65 (.ext 3 (.t 58)),o 13 (.alloc [(.cl []),(.cl []),(.cl []),(.cl []),(.int .i64 0),(.cl []),(.cl []),(.int .i64 0)]),sT 8 13 62,mT 14 63,mT 15 64,mT 16 65]
 [(0,1),(0,8),(1,8),(2,8)])
 (.seq (.draw [cL 67 58 [],lT 68 8 9,cL 69 59 [],cL 70 36 [(.t 67),(.t 68),(.t 69)],mT 66 70,o 71 (.ext 0 (.t 66)),o 72 (.ext 1 (.t 66)),
 o 73 (.ext 2 (.t 66)),o 17 (.alloc [(.cl []),(.cl []),(.cl []),(.cl []),(.int .i64 0),(.cl []),(.cl []),(.int .i64 0)]),sT 8 17 71,mT 18 72,mT 19 73]
 [(0,1),(1,2),(0,8),(1,8),(2,8),(3,8)])
 (.seq (.ops [cL 75 44 [(cI 10),(cI 4),(cI 1)],mT 74 75,o 76 (.ext 0 (.t 74)),o 77 (.ext 1 (.t 74)),mT 20 76,mT 21 77])
 (.seq (.ops [cL 79 44 [(cI 10),(cI 4),(cI 4)],mT 78 79,o 80 (.ext 0 (.t 78)),o 81 (.ext 1 (.t 78)),mT 22 80,mT 23 81])
 (.seq (.seq (.ops [mT 82 2,bN 83 .neq (.t 82) (cI 0),mT 84 83,gM 85 84 false 4,gB 86 84 false .neq (.t 85) (cI 0),pO 87 84 86,mT 88 87,gM 89 88 false 6,
 gB 90 88 false .neq (.t 89) (cI 7),pO 91 88 90,mT 92 91,gM 93 92 false 8,gB 94 92 false .neq (.t 93) (cI 0),pO 95 92 94,mT 96 95,gM 97 96 false 12,
 gB 98 96 false .neq (.t 97) (cI 0),pO 99 96 98,mT 100 99,gM 101 100 false 16,gB 102 100 false .neq (.t 101) (cI 0),pO 103 100 102,mT 104 103,gM 105 104 false 19,
 gB 106 104 false .neq (.t 105) (cI 0),pO 107 104 106,mT 108 107,gM 109 108 false 21,gB 110 108 false .neq (.t 109) (cI 0),pO 111 108 110,mT 112 111,
 gM 113 112 false 23,gB 114 112 false .neq (.t 113) (cI 7),pO 115 112 114])
 (.cond (.t 115)
 (.seq (.ops [mC 0 (.bool false)])
 .ret)
 .skip))
 (.seq (.seq (.draw [mT 116 1,o 117 (.bslice 3 1 [(.int .i64 0)] [(0,(cI 0)),(1,(cI 2)),(2,(cI 4))]),cL 118 22 [(.t 116),(.t 117)],nT 119 118,mT 120 119,
 gT 121 120 false 5 3,gL 122 120 false 60 [],og 123 120 false (.bslice 2 1 [(.int .i64 0)] [(0,(cI 0)),(1,(cI 2))]),
 gL 124 120 false 28 [(.t 122),(.t 123)],gL 125 120 false 27 [(.t 121),(.t 124)],og 126 120 false (.un .not (.t 125)),pO 127 120 126,mT 128 127,
 gF 129 128 false 6 7,g1 130 128 false 129,og 131 128 false (.bslice 4 1 [(.int .i64 0)] [(0,(cI 1)),(1,(cI 0)),(2,(cI 0)),(3,(cI 0))]),
 gL 132 128 false 22 [(.t 130),(.t 131)],og 133 128 false (.un .not (.t 132)),pO 134 128 133,mT 135 134,gM 136 135 false 11,pO 137 135 136,mT 138 137,
 gF 139 138 false 6 9,g1 140 138 false 139,og 141 138 false (.bslice 4 1 [(.int .i64 0)] [(0,(cI 2)),(1,(cI 0)),(2,(cI 1)),(3,(cI 0))]),
 gL 142 138 false 22 [(.t 140),(.t 141)],og 143 138 false (.un .not (.t 142)),pO 144 138 143]
 [(5,6),(5,7),(6,7),(5,8),(14,15),(24,25)])
 (.cond (.t 144)
 (.seq (.ops [mC 0 (.bool false)])
 .ret)
 .skip))
 (.seq (.ops [mT 145 15,mT 146 145,gM 147 146 true 14,og 148 146 true (.bslice 2 1 [(.int .i64 0)] [(0,(cI 1)),(1,(cI 3))]),
 gL 149 146 true 22 [(.t 147),(.t 148)],pA 150 146 149,mT 151 150,gF 152 151 true 6 13,g1 153 151 true 152,
 og 154 151 true (.bslice 2 1 [(.int .i64 0)] [(0,(cI 1)),(1,(cI 0))]),gL 155 151 true 22 [(.t 153),(.t 154)],pA 156 151 155,mT 157 156,
 gF 158 157 true 7 13,g1 159 157 true 158,gB 160 157 true .eql (.t 159) (cI 1),pA 161 157 160,mT 162 161,gF 163 162 true 5 13,g1 164 162 true 163,
 og 165 162 true (.bslice 2 1 [(.int .i64 0)] [(0,(cI 1)),(1,(cI 1))]),gL 166 162 true 22 [(.t 164),(.t 165)],pA 167 162 166,mT 168 167,gM 169 168 true 18,
 gB 170 168 true .eql (.t 169) (cI 1),pA 171 168 170,mT 172 171,gF 173 172 true 6 17,g1 174 172 true 173,
 og 175 172 true (.bslice 5 1 [(.int .i64 0)] [(0,(cI 2)),(1,(cI 0)),(2,(cI 1)),(3,(cI 0)),(4,(cI 1))]),gL 176 172 true 22 [(.t 174),(.t 175)],
 pA 177 172 176,mT 178 177,gM 179 178 true 20,gB 180 178 true .eql (.t 179) (cI 4),pA 181 178 180,mT 0 181])
 .ret)))))))))))))}
def bFx :aM:={np:=2,res:=[.tmp 4,.tmp 5],keep:=false,body:=
 (.seq (.ops [bX 2 4 0,bX 3 5 1,mC 4 (.cl []),mC 5 (.int .i64 0)])
 (.seq (.seq (.ops [lT 13 4 2,lT 14 5 3,cL 15 61 [(.t 13),(.t 14)],mT 6 15])
 (.seq (.ops [mT 16 6,bN 17 .neq (.t 16) (cI 0)])
 (.cond (.t 17)
 (.seq (.ops [mC 4 (.cl []),mC 5 (.int .i64 2)])
 .ret)
 .skip)))
 (.seq (.ops [o 18 (.mkmap),mT 7 18])
 (.seq (.ops [fA 19 1 3,l1 20 19,cL 21 62 [(.t 20)],o 8 (.alloc [(.cl [])]),sT 1 8 21])
 (.seq (.block 0 (.loop (.seq (.seq (.ops [l1 22 8,lN 23 22,bN 24 .gtr (.t 23) (cI 0)])
 (.cond (.t 24)
 .skip
 (.exit 0)))
 (.block 1 (.seq (.ops [l1 25 8,l1 26 8,lN 27 26,bN 28 .sub (.t 27) (cI 1),iA 29 1 25 28,l1 30 29,mT 9 30])
 (.seq (.ops [l1 31 8,l1 32 8,lN 33 32,bN 34 .sub (.t 33) (cI 1),o 35 (.slice false 1 (.t 31) none (some (.t 34)) none),sT 1 8 35])
 (.seq (.seq (.ops [mT 36 7,mT 37 9,o 38 (.mget .num (.bool false) false (.t 36) (.t 37))])
 (.cond (.t 38)
 (.exit 1)
 .skip))
 (.seq (.ops [mT 39 7,mT 40 9,on (.mput .num (.t 39) (.t 40) (cB true))])
 (.seq (.ops [fA 41 0 3,l1 42 41,mT 43 9,iA 44 4 42 43,lT 45 4 44,cL 46 63 [(.t 45)]])
 (.block 2 (.rangeF (.t 46) [47]
 (.ops [mT 10 47])
 (.block 3 (.ops [l1 48 8,mT 49 10,o 50 (.bslice 1 1 [(.int .i64 0)] [(0,(.t 49))]),o 51 (.append 1 (.t 48) (.t 50)),sT 1 8 51])))))))))))))
 (.seq (.ops [mC 11 (.cl [])])
 (.seq (.seq (.ops [fA 52 0 3,l1 53 52,lN 54 53,mC 55 (.int .i64 0)])
 (.block 4 (.loop (.seq (.ops [bN 56 .lss (.t 55) (.t 54)])
 (.seq (.cond (.t 56)
 .skip
 (.exit 4))
 (.seq (.block 5 (.seq (.ops [mT 57 55,mT 12 57])
 (.seq (.ops [mT 58 7,mT 59 12,o 60 (.mget .num (.bool false) false (.t 58) (.t 59))])
 (.cond (.t 60)
 (.ops [mT 61 11,mT 62 12,o 63 (.bslice 1 1 [(.int .i64 0)] [(0,(.t 62))]),o 64 (.append 1 (.t 61) (.t 63)),mT 11 64])
 .skip))))
 (.ops [bN 65 .add (.t 55) (cI 1),mT 55 65])))))))
 (.seq (.ops [mT 66 11,mT 4 66,mC 5 (.int .i64 0)])
 .ret))))))))}
def bFy :aM:={np:=3,res:=[.cell 6 true 5,.cell 7 false 1],keep:=false,body:=
 (.seq (.ops [bX 3 4 0,bX 4 5 1,o 6 (.alloc [(.cl []),(.cl []),(.cl []),(.cl []),(.int .i64 0)]),o 7 (.alloc [(.int .i64 0)])])
 (.seq (.seq (.ops [lT 15 4 3,lT 16 5 4,cL 17 61 [(.t 15),(.t 16)],bN 18 .neq (.t 17) (cI 0)])
 (.cond (.t 18)
 (.seq (.ops [o 19 (.build [(.cl []),(.cl []),(.cl []),(.cl []),(.int .i64 0)] []),sT 5 6 19,on (.store 1 (.t 7) (cI 2))])
 .ret)
 .skip))
 (.seq (.ops [fA 20 0 4,l1 21 20,lN 22 21,o 23 (.mklen 1 [(.bool false)] (.t 22) (.t 22)),o 8 (.alloc [(.cl [])]),sT 1 8 23])
 (.seq (.ops [mC 9 (.int .i64 (-1))])
 (.seq (.seq (.ops [mT 24 2,lN 25 24,mC 26 (.int .i64 0)])
 (.block 0 (.loop (.seq (.ops [bN 27 .lss (.t 26) (.t 25)])
 (.seq (.cond (.t 27)
 .skip
 (.exit 0))
 (.seq (.block 1 (.seq (.ops [iA 28 1 24 26,l1 29 28,mT 11 29])
 (.seq (.seq (.ops [mT 30 11,mT 31 9,bN 32 .leq (.t 30) (.t 31),mT 33 32,gM 34 33 false 11,gF 35 33 false 0 4,g1 36 33 false 35,gN 37 33 false 36,
 gB 38 33 false .geq (.t 34) (.t 37),pO 39 33 38])
 (.cond (.t 39)
 (.seq (.ops [o 40 (.build [(.cl []),(.cl []),(.cl []),(.cl []),(.int .i64 0)] []),sT 5 6 40,on (.store 1 (.t 7) (cI 2))])
 .ret)
 .skip))
 (.ops [l1 41 8,mT 42 11,mT 43 11,iA 44 1 41 42,on (.store 1 (.t 44) (cB true)),mT 9 43]))))
 (.ops [bN 45 .add (.t 26) (cI 1),mT 26 45])))))))
 (.seq (.seq (.ops [fA 46 0 4,l1 47 46,lN 48 47,mC 49 (.int .i64 0)])
 (.block 2 (.loop (.seq (.ops [bN 50 .lss (.t 49) (.t 48)])
 (.seq (.cond (.t 50)
 .skip
 (.exit 2))
 (.seq (.block 3 (.seq (.ops [mT 51 49,iA 52 4 47 49,lT 53 4 52,o 12 (.alloc [(.int .i64 0)]),o 13 (.alloc [(.int .i64 0),(.int .i64 0),(.cl []),(.cl [])]),sT 1 12 51,
 sT 4 13 53])
 (.seq (.seq (.ops [lT 54 4 13,cL 55 64 [(.t 54)],mT 56 55,g1 57 56 true 8,g1 58 56 true 12,og 59 56 true (.ia 1 (.t 57) (.t 58)),g1 60 56 true 59,
 og 61 56 true (.un .not (.t 60)),pA 62 56 61])
 (.cond (.t 62)
 (.seq (.ops [o 63 (.build [(.cl []),(.cl []),(.cl []),(.cl []),(.int .i64 0)] []),sT 5 6 63,on (.store 1 (.t 7) (cI 7))])
 .ret)
 .skip))
 (.seq (.ops [lT 64 4 13,cL 65 63 [(.t 64)]])
 (.block 4 (.rangeF (.t 65) [66]
 (.ops [mT 14 66])
 (.block 5 (.seq (.ops [l1 67 8,l1 68 12,iA 69 1 67 68,l1 70 69,mT 71 70,g1 72 71 true 8,gM 73 71 true 14,og 74 71 true (.ia 1 (.t 72) (.t 73)),g1 75 71 true 74,
 og 76 71 true (.un .not (.t 75)),pA 77 71 76])
 (.cond (.t 77)
 (.seq (.ops [o 78 (.build [(.cl []),(.cl []),(.cl []),(.cl []),(.int .i64 0)] []),sT 5 6 78,on (.store 1 (.t 7) (cI 7))])
 .ret)
 .skip)))))))))
 (.ops [bN 79 .add (.t 49) (cI 1),mT 49 79])))))))
 (.seq (.ops [lT 80 5 4,mT 81 2,cL 82 65 [(.t 80),(.t 81)],sT 5 6 82,on (.store 1 (.t 7) (cI 0))])
 .ret)))))))}
def bB9 :aM:={np:=2,res:=[.tmp 4],keep:=false,body:=
 (.seq (.ops [bX 2 4 0,bX 3 5 1,mC 4 (.bool false)])
 (.seq (.ops [lT 5 4 2,cL 6 66 [(.t 5)],mT 7 6,gT 8 7 true 4 2,gT 9 7 true 5 3,gL 10 7 true 37 [(.t 8),(.t 9)],pA 11 7 10,mT 4 11])
 .ret))}
def bFz :aM:={np:=2,res:=[.tmp 4],keep:=false,body:=
 (.seq (.ops [mC 4 (.bool false)])
 (.seq (.seq (.ops [mT 6 0,lN 7 6,mT 8 1,lN 9 8,bN 10 .neq (.t 7) (.t 9)])
 (.cond (.t 10)
 (.seq (.ops [mC 4 (.bool false)])
 .ret)
 .skip))
 (.seq (.seq (.ops [mC 5 (.int .i64 0)])
 (.block 0 (.loop (.seq (.seq (.ops [mT 11 5,mT 12 0,lN 13 12,bN 14 .lss (.t 11) (.t 13)])
 (.cond (.t 14)
 .skip
 (.exit 0)))
 (.seq (.block 1 (.seq (.draw [mT 17 0,mT 18 5,iA 19 1 17 18,l1 20 19,mT 21 1,mT 22 5,iA 23 1 21 22,l1 24 23,bN 25 .neq (.t 20) (.t 24)]
 [])
 (.cond (.t 25)
 (.seq (.ops [mC 4 (.bool false)])
 .ret)
 .skip)))
 (.ops [mT 15 5,bN 16 .add (.t 15) (cI 1),mT 5 16]))))))
 (.seq (.ops [mC 4 (.bool true)])
 .ret))))}
def bCa :aM:={np:=1,res:=[.tmp 2],keep:=false,body:=
 (.seq (.ops [bX 1 5 0,mC 2 (.cl [])])
 (.seq (.ops [fA 9 0 1,l1 10 9,lN 11 10,o 12 (.mklen 1 [(.bool false)] (.t 11) (.t 11)),mT 3 12])
 (.seq (.seq (.ops [mC 4 (.int .i64 0)])
 (.block 0 (.loop (.seq (.seq (.ops [mT 13 4,mT 14 3,lN 15 14,bN 16 .lss (.t 13) (.t 15)])
 (.cond (.t 16)
 .skip
 (.exit 0)))
 (.seq (.block 1 (.ops [mT 19 3,mT 20 4,lT 21 5 1,mT 22 4,cL 23 67 [(.t 21),(.t 22)],iA 24 1 19 20,sT 1 24 23]))
 (.ops [mT 17 4,bN 18 .add (.t 17) (cI 1),mT 4 18]))))))
 (.seq (.seq (.ops [mC 5 (.bool true)])
 (.block 2 (.loop (.seq (.seq (.ops [mT 25 5])
 (.cond (.t 25)
 .skip
 (.exit 2)))
 (.block 3 (.seq (.ops [mC 5 (.bool false)])
 (.seq (.ops [mC 6 (.int .i64 0)])
 (.block 4 (.loop (.seq (.seq (.ops [mT 26 6,mT 27 3,lN 28 27,bN 29 .lss (.t 26) (.t 28)])
 (.cond (.t 29)
 .skip
 (.exit 4)))
 (.seq (.block 5 (.seq (.ops [fA 32 0 1,l1 33 32,mT 34 6,iA 35 4 33 34,lT 36 4 35,cL 37 68 [(.t 36)],mT 7 37])
 (.seq (.ops [mC 8 (.int .i64 0)])
 (.block 6 (.loop (.seq (.seq (.ops [mT 38 8,mT 39 7,lN 40 39,bN 41 .lss (.t 38) (.t 40),mT 42 41,gM 43 42 true 3,gM 44 42 true 6,og 45 42 true (.ia 1 (.t 43) (.t 44)),
 g1 46 42 true 45,pA 47 42 46])
 (.cond (.t 47)
 .skip
 (.exit 6)))
 (.seq (.block 7 (.seq (.ops [mT 50 3,mT 51 7,mT 52 8,iA 53 1 51 52,l1 54 53,iA 55 1 50 54,l1 56 55,nT 57 56])
 (.cond (.t 57)
 (.seq (.ops [mT 58 3,mT 59 7,mT 60 8,iA 61 1 59 60,l1 62 61,iA 63 1 58 62,on (.store 1 (.t 63) (cB true))])
 (.ops [mC 5 (.bool true)]))
 .skip)))
 (.ops [mT 48 8,bN 49 .add (.t 48) (cI 1),mT 8 49]))))))))
 (.ops [mT 30 6,bN 31 .add (.t 30) (cI 1),mT 6 31]))))))))))))
 (.seq (.ops [mT 64 3,mT 2 64])
 .ret)))))}
def bF0 :aM:={np:=2,res:=[.tmp 4],keep:=false,body:=
 (.seq (.ops [bX 2 5 0,bX 3 5 1,mC 4 (.bool false)])
 (.seq (.seq (.ops [fA 6 0 2,l1 7 6,lN 8 7,fA 9 0 3,l1 10 9,lN 11 10,bN 12 .neq (.t 8) (.t 11),mT 13 12,gF 14 13 false 1 2,g1 15 13 false 14,gF 16 13 false 1 3,
 g1 17 13 false 16,gL 18 13 false 22 [(.t 15),(.t 17)],og 19 13 false (.un .not (.t 18)),pO 20 13 19,mT 21 20,gF 22 21 false 2 2,g1 23 21 false 22,
 gF 24 21 false 2 3,g1 25 21 false 24,gL 26 21 false 71 [(.t 23),(.t 25)],og 27 21 false (.un .not (.t 26)),pO 28 21 27,mT 29 28,gF 30 29 false 3 2,
 g1 31 29 false 30,gF 32 29 false 3 3,g1 33 29 false 32,gL 34 29 false 22 [(.t 31),(.t 33)],og 35 29 false (.un .not (.t 34)),pO 36 29 35,mT 37 36,
 gF 38 37 false 4 2,g1 39 37 false 38,gF 40 37 false 4 3,g1 41 37 false 40,gB 42 37 false .neq (.t 39) (.t 41),pO 43 37 42])
 (.cond (.t 43)
 (.seq (.ops [mC 4 (.bool false)])
 .ret)
 .skip))
 (.seq (.seq (.ops [mC 5 (.int .i64 0)])
 (.block 0 (.loop (.seq (.seq (.ops [mT 44 5,fA 45 0 2,l1 46 45,lN 47 46,bN 48 .lss (.t 44) (.t 47)])
 (.cond (.t 48)
 .skip
 (.exit 0)))
 (.seq (.block 1 (.seq (.draw [fA 51 0 2,l1 52 51,mT 53 5,iA 54 4 52 53,lT 55 4 54,fA 56 0 3,l1 57 56,mT 58 5,iA 59 4 57 58,lT 60 4 59,
 cL 61 72 [(.t 55),(.t 60)],nT 62 61]
 [])
 (.cond (.t 62)
 (.seq (.ops [mC 4 (.bool false)])
 .ret)
 .skip)))
 (.ops [mT 49 5,bN 50 .add (.t 49) (cI 1),mT 5 50]))))))
 (.seq (.ops [mC 4 (.bool true)])
 .ret))))}
def bF1 :aM:={np:=2,res:=[.cell 4 true 5],keep:=false,body:=
 (.seq (.ops [bX 2 5 0,o 4 (.alloc [(.cl []),(.cl []),(.cl []),(.cl []),(.int .i64 0)])])
 (.seq (.ops [fA 12 2 2,l1 13 12,fA 14 3 2,l1 15 14,fA 16 4 2,l1 17 16,
 o 18 (.build [(.cl []),(.cl []),(.cl []),(.cl []),(.int .i64 0)] [(2,1,(.t 13)),(3,1,(.t 15)),(4,1,(.t 17))]),
 o 5 (.alloc [(.cl []),(.cl []),(.cl []),(.cl []),(.int .i64 0)]),sT 5 5 18])
 (.seq (.seq (.ops [mC 6 (.int .i64 0)])
 (.block 0 (.loop (.seq (.seq (.ops [mT 19 6,mT 20 1,lN 21 20,bN 22 .lss (.t 19) (.t 21)])
 (.cond (.t 22)
 .skip
 (.exit 0)))
 (.seq (.block 1 (.seq (.draw [fA 25 0 2,l1 26 25,mT 27 1,mT 28 6,iA 29 1 27 28,l1 30 29,iA 31 4 26 30,lT 32 4 31,
 o 7 (.alloc [(.int .i64 0),(.int .i64 0),(.cl []),(.cl [])]),sT 4 7 32]
 [(1,8),(4,8),(5,8),(6,8),(7,8)])
 (.seq (.draw [fA 33 0 7,l1 34 33,fA 35 1 7,l1 36 35,fA 37 2 7,l1 38 37,mT 39 1,cL 40 73 [(.t 38),(.t 39)],
 o 41 (.build [(.int .i64 0),(.int .i64 0),(.cl []),(.cl [])] [(0,1,(.t 34)),(1,1,(.t 36)),(2,1,(.t 40))]),o 8 (.alloc [(.int .i64 0),(.int .i64 0),(.cl []),(.cl [])]),
 sT 4 8 41]
 [(1,7),(3,7),(1,9),(3,9),(5,9),(7,9)])
 (.seq (.seq (.ops [mC 9 (.int .i64 0)])
 (.block 2 (.loop (.seq (.seq (.ops [mT 42 9,fA 43 3 7,l1 44 43,lN 45 44,bN 46 .lss (.t 42) (.t 45)])
 (.cond (.t 46)
 .skip
 (.exit 2)))
 (.seq (.block 3 (.seq (.ops [fA 49 3 7,l1 50 49,mT 51 9,iA 52 3 50 51,lT 53 3 52,o 10 (.alloc [(.int .i64 0),(.cl []),(.cl [])]),sT 3 10 53])
 (.draw [fA 54 3 8,l1 55 54,fA 56 0 10,l1 57 56,fA 58 1 10,l1 59 58,mT 60 1,cL 61 73 [(.t 59),(.t 60)],fA 62 2 10,l1 63 62,mT 64 1,
 cL 65 73 [(.t 63),(.t 64)],o 66 (.build [(.int .i64 0),(.cl []),(.cl [])] [(0,1,(.t 57)),(1,1,(.t 61)),(2,1,(.t 65))]),
 o 67 (.bslice 1 3 [(.int .i64 0),(.cl []),(.cl [])] [(0,(.t 66))]),o 68 (.append 3 (.t 55) (.t 67)),fA 69 3 8,sT 1 69 68]
 [(1,7),(3,7),(7,9),(1,11),(3,11),(1,13)])))
 (.ops [mT 47 9,bN 48 .add (.t 47) (cI 1),mT 9 48]))))))
 (.ops [fA 70 0 5,l1 71 70,lT 72 4 8,o 73 (.bslice 1 4 [(.int .i64 0),(.int .i64 0),(.cl []),(.cl [])] [(0,(.t 72))]),o 74 (.append 4 (.t 71) (.t 73)),fA 75 0 5,
 sT 1 75 74])))))
 (.ops [mT 23 6,bN 24 .add (.t 23) (cI 1),mT 6 24]))))))
 (.seq (.seq (.ops [mC 11 (.int .i64 0)])
 (.block 4 (.loop (.seq (.seq (.ops [mT 76 11,fA 77 1 2,l1 78 77,lN 79 78,bN 80 .lss (.t 76) (.t 79)])
 (.cond (.t 80)
 .skip
 (.exit 4)))
 (.seq (.block 5 (.draw [fA 83 1 5,l1 84 83,mT 85 1,fA 86 1 2,l1 87 86,mT 88 11,iA 89 1 87 88,l1 90 89,cL 91 74 [(.t 85),(.t 90)],
 o 92 (.bslice 1 1 [(.int .i64 0)] [(0,(.t 91))]),o 93 (.append 1 (.t 84) (.t 92)),fA 94 1 5,sT 1 94 93]
 [(1,8),(1,9)]))
 (.ops [mT 81 11,bN 82 .add (.t 81) (cI 1),mT 11 82]))))))
 (.seq (.ops [lT 95 5 5,sT 5 4 95])
 .ret)))))}
def bCb :aM:={np:=1,res:=[.tmp 2],keep:=false,body:=
 (.seq (.ops [bX 1 8 0,mC 2 (.bool false)])
 (.seq (.ops [fA 3 0 1,lT 4 5 3,cL 5 57 [(.t 4)],mT 6 5,gF 7 6 true 5 1,g1 8 6 true 7,gN 9 6 true 8,gB 10 6 true .leq (.t 9) (cI 130),pA 11 6 10,mT 12 11,
 gF 13 12 true 6 1,g1 14 12 true 13,gN 15 12 true 14,gB 16 12 true .leq (.t 15) (cI 130),pA 17 12 16,mT 2 17])
 .ret))}
def bCc :aM:={np:=2,res:=[.cell 4 true 8,.tmp 5],keep:=false,body:=
 (.seq (.ops [bX 2 4 0,bX 3 5 1,o 4 (.alloc [(.cl []),(.cl []),(.cl []),(.cl []),(.int .i64 0),(.cl []),(.cl []),(.int .i64 0)]),mC 5 (.int .i64 0)])
 (.seq (.seq (.ops [lT 7 4 2,lT 8 5 3,cL 9 61 [(.t 7),(.t 8)],bN 10 .neq (.t 9) (cI 0)])
 (.cond (.t 10)
 (.seq (.ops [o 11 (.build [(.cl []),(.cl []),(.cl []),(.cl []),(.int .i64 0),(.cl []),(.cl []),(.int .i64 0)] []),sT 8 4 11,mC 5 (.int .i64 2)])
 .ret)
 .skip))
 (.seq (.draw [lT 12 5 3,cL 13 75 [(.t 12)],fA 14 0 3,l1 15 14,lN 16 15,o 17 (.mklen 1 [(.int .i64 0)] (.t 16) (.t 16)),
 o 18 (.build [(.cl []),(.cl []),(.cl []),(.cl []),(.int .i64 0),(.cl []),(.cl []),(.int .i64 0)] [(0,5,(.t 13)),(5,1,(.t 17))]),
 o 19 (.build [(.cl []),(.cl []),(.cl []),(.cl []),(.int .i64 0),(.cl []),(.cl []),(.int .i64 0)] [(0,8,(.t 18))]),bX 20 8 19,mT 6 20]
 [(1,3),(1,4),(0,5),(1,5)])
 (.seq (.ops [mT 21 6,o 22 (.icall (.f 76) [(.t 21)])])
 (.seq (.ops [mT 23 6,nK 24 23,fA 25 0 24,lT 26 8 25,sT 8 4 26,mC 5 (.int .i64 0)])
 .ret)))))}
def bCd :aM:={np:=2,res:=[.tmp 4],keep:=false,body:=
 (.seq (.ops [bX 2 4 0,bX 3 8 1,mC 4 (.int .i64 0)])
 (.seq (.seq (.ops [lT 6 4 2,fA 7 0 3,lT 8 5 7,cL 9 61 [(.t 6),(.t 8)],bN 10 .neq (.t 9) (cI 0)])
 (.cond (.t 10)
 (.seq (.ops [mC 4 (.int .i64 2)])
 .ret)
 .skip))
 (.seq (.seq (.ops [lT 11 8 3,o 12 (.build [(.cl []),(.cl []),(.cl []),(.cl []),(.int .i64 0),(.cl []),(.cl []),(.int .i64 0)] [(0,8,(.t 11))]),bX 13 8 12,mT 5 13])
 (.seq (.ops [mT 14 5,cL 15 77 [(.t 14)],nT 16 15])
 (.cond (.t 16)
 (.seq (.ops [mC 4 (.int .i64 2)])
 .ret)
 .skip)))
 (.seq (.ops [mC 4 (.int .i64 0)])
 .ret))))}
def bCe :aM:={np:=2,res:=[.tmp 4],keep:=false,body:=
 (.seq (.ops [bX 2 4 0,bX 3 8 1,mC 4 (.bool false)])
 (.seq (.ops [fA 9 0 3,fA 10 0 9,l1 11 10,lN 12 11,mT 5 12])
 (.seq (.seq (.ops [lT 13 4 2,fA 14 0 3,lT 15 5 14,cL 16 20 [(.t 13),(.t 15)],nT 17 16,mT 18 17,gF 19 18 false 5 3,g1 20 18 false 19,gN 21 18 false 20,
 gM 22 18 false 5,gB 23 18 false .neq (.t 21) (.t 22),pO 24 18 23,mT 25 24,gF 26 25 false 6 3,g1 27 25 false 26,gN 28 25 false 27,gM 29 25 false 5,
 gB 30 25 false .neq (.t 28) (.t 29),pO 31 25 30,mT 32 31,gF 33 32 false 7 3,g1 34 32 false 33,gL 35 32 false 69 [(.t 34),(cI 0),(cI 3)],
 og 36 32 false (.un .not (.t 35)),pO 37 32 36])
 (.cond (.t 37)
 (.seq (.ops [mC 4 (.bool false)])
 .ret)
 .skip))
 (.seq (.seq (.ops [mC 6 (.int .i64 0)])
 (.block 0 (.loop (.seq (.seq (.ops [mT 38 6,mT 39 5,bN 40 .lss (.t 38) (.t 39)])
 (.cond (.t 40)
 .skip
 (.exit 0)))
 (.seq (.block 1 (.seq (.seq (.ops [fA 43 5 3,l1 44 43,mT 45 6,iA 46 1 44 45,l1 47 46,cL 48 69 [(.t 47),(cI 0),(cI 2)],nT 49 48,mT 50 49,gF 51 50 false 6 3,
 g1 52 50 false 51,gM 53 50 false 6,og 54 50 false (.ia 1 (.t 52) (.t 53)),g1 55 50 false 54,gL 56 50 false 69 [(.t 55),(cI 0),(cI 2)],
 og 57 50 false (.un .not (.t 56)),pO 58 50 57])
 (.cond (.t 58)
 (.seq (.ops [mC 4 (.bool false)])
 .ret)
 .skip))
 (.seq (.seq (.ops [fA 59 6 3,l1 60 59,mT 61 6,iA 62 1 60 61,l1 63 62,bN 64 .eql (.t 63) (cI 0),mT 65 64,gF 66 65 true 0 3,gT 67 65 true 5 66,gM 68 65 true 6,
 gL 69 65 true 67 [(.t 67),(.t 68)],gM 70 65 true 69,gF 71 70 false 5 3,g1 72 70 false 71,gM 73 70 false 6,og 74 70 false (.ia 1 (.t 72) (.t 73)),
 g1 75 70 false 74,gB 76 70 false .eql (.t 75) (cI 2),gM 77 70 false 76,gF 78 77 true 7 3,g1 79 77 true 78,gL 80 77 true 78 [(.t 79)],
 og 81 77 true (.un .not (.t 80)),og 82 70 false (.pick (.t 77) (.t 81) (cB false)),og 83 65 true (.pick (.t 70) (cB true) (.t 82)),pA 84 65 83])
 (.cond (.t 84)
 (.seq (.ops [mC 4 (.bool false)])
 .ret)
 .skip))
 (.seq (.ops [fA 85 0 3,fA 86 0 85,l1 87 86,mT 88 6,iA 89 4 87 88,lT 90 4 89,cL 91 68 [(.t 90)],mT 7 91])
 (.seq (.ops [mC 8 (.int .i64 0)])
 (.block 2 (.loop (.seq (.seq (.ops [mT 92 8,mT 93 7,lN 94 93,bN 95 .lss (.t 92) (.t 94)])
 (.cond (.t 95)
 .skip
 (.exit 2)))
 (.seq (.block 3 (.seq (.draw [fA 98 6 3,l1 99 98,mT 100 6,iA 101 1 99 100,l1 102 101,bN 103 .eql (.t 102) (cI 2),mT 104 103,gF 105 104 true 6 3,g1 106 104 true 105,
 gM 107 104 true 7,gM 108 104 true 8,og 109 104 true (.ia 1 (.t 107) (.t 108)),g1 110 104 true 109,og 111 104 true (.ia 1 (.t 106) (.t 110)),g1 112 104 true 111,
 gB 113 104 true .eql (.t 112) (cI 0),pA 114 104 113]
 [])
 (.cond (.t 114)
 (.seq (.ops [mC 4 (.bool false)])
 .ret)
 .skip)))
 (.ops [mT 96 8,bN 97 .add (.t 96) (cI 1),mT 8 97]))))))))))
 (.ops [mT 41 6,bN 42 .add (.t 41) (cI 1),mT 6 42]))))))
 (.seq (.ops [mC 4 (.bool true)])
 .ret)))))}
def aPo :aM:={np:=3,res:=[.cell 6 true 8,.tmp 7,.tmp 8],keep:=false,body:=
 (.seq (.ops [bX 3 4 0,bX 4 8 1,bX 5 5 2,o 6 (.alloc [(.cl []),(.cl []),(.cl []),(.cl []),(.int .i64 0),(.cl []),(.cl []),(.int .i64 0)]),mC 7 (.int .i64 0),
 mC 8 (.int .i64 0)])
 (.seq (.seq (.ops [lT 11 4 3,lT 12 8 4,cL 13 31 [(.t 11),(.t 12)],bN 14 .neq (.t 13) (cI 0),mT 15 14,gT 16 15 false 4 3,gT 17 15 false 5 5,
 gL 18 15 false 61 [(.t 16),(.t 17)],gB 19 15 false .neq (.t 18) (cI 0),pO 20 15 19])
 (.cond (.t 20)
 (.seq (.ops [o 21 (.build [(.cl []),(.cl []),(.cl []),(.cl []),(.int .i64 0),(.cl []),(.cl []),(.int .i64 0)] []),sT 8 6 21,mC 7 (.int .i64 0),mC 8 (.int .i64 2)])
 .ret)
 .skip))
 (.seq (.seq (.ops [fA 22 0 4,lT 23 5 22,lT 24 5 5,cL 25 80 [(.t 23),(.t 24)],nT 26 25])
 (.cond (.t 26)
 (.seq (.ops [o 27 (.build [(.cl []),(.cl []),(.cl []),(.cl []),(.int .i64 0),(.cl []),(.cl []),(.int .i64 0)] []),sT 8 6 27,mC 7 (.int .i64 0),mC 8 (.int .i64 7)])
 .ret)
 .skip))
 (.seq (.ops [lT 28 8 4,o 29 (.icall (.f 81) [(.t 28)]),mT 9 29])
 (.seq (.ops [mT 30 9,lT 31 5 5,cL 32 75 [(.t 31)],o 33 (.icall (.f 82) [(.t 30),(.t 32)]),mT 10 33])
 (.seq (.ops [mT 34 9,nK 35 34,fA 36 0 35,lT 37 8 36,mT 38 10,sT 8 6 37,mT 7 38,mC 8 (.int .i64 0)])
 .ret))))))}
def bCf :aM:={np:=2,res:=[.tmp 4],keep:=false,body:=
 (.seq (.ops [bX 2 4 0,bX 3 5 1,mC 4 (.bool false)])
 (.seq (.seq (.ops [fA 7 0 3,l1 8 7,lN 9 8,bN 10 .gtr (.t 9) (cI 120),mT 11 10,gF 12 11 false 2 3,g1 13 11 false 12,gN 14 11 false 13,
 gB 15 11 false .gtr (.t 14) (cI 100),pO 16 11 15,mT 17 16,gF 18 17 false 3 3,g1 19 17 false 18,gL 20 17 false 83 [(.t 19),(cI 50)],
 og 21 17 false (.un .not (.t 20)),pO 22 17 21,mT 23 22,gF 24 23 false 4 3,g1 25 23 false 24,gL 26 23 false 84 [(.t 25),(cI 0),(cI 1000000000)],
 og 27 23 false (.un .not (.t 26)),pO 28 23 27,mT 29 28,gT 30 29 false 5 3,gL 31 29 false 85 [(.t 30)],og 32 29 false (.un .not (.t 31)),pO 33 29 32])
 (.cond (.t 33)
 (.seq (.ops [mC 4 (.bool false)])
 .ret)
 .skip))
 (.seq (.seq (.ops [mC 5 (.int .i64 0)])
 (.block 0 (.loop (.seq (.seq (.ops [mT 34 5,fA 35 0 3,l1 36 35,lN 37 36,bN 38 .lss (.t 34) (.t 37)])
 (.cond (.t 38)
 .skip
 (.exit 0)))
 (.seq (.block 1 (.seq (.draw [lT 41 4 2,lT 42 5 3,fA 43 0 3,l1 44 43,mT 45 5,iA 46 4 44 45,lT 47 4 46,cL 48 86 [(.t 41),(.t 42),(.t 47)],nT 49 48]
 [])
 (.cond (.t 49)
 (.seq (.ops [mC 4 (.bool false)])
 .ret)
 .skip)))
 (.ops [mT 39 5,bN 40 .add (.t 39) (cI 1),mT 5 40]))))))
 (.seq (.seq (.ops [mC 6 (.int .i64 0)])
 (.block 2 (.loop (.seq (.seq (.ops [mT 50 6,fA 51 2 3,l1 52 51,lN 53 52,bN 54 .lss (.t 50) (.t 53)])
 (.cond (.t 54)
 .skip
 (.exit 2)))
 (.seq (.block 3 (.seq (.ops [fA 57 2 3,l1 58 57,mT 59 6,iA 60 2 58 59,fA 61 0 60,l1 62 61,cL 63 84 [(.t 62),(cI 0),(cI 3)],nT 64 63,mT 65 64,gF 66 65 false 2 3,
 g1 67 65 false 66,gM 68 65 false 6,og 69 65 false (.ia 2 (.t 67) (.t 68)),gF 70 65 false 1 69,g1 71 65 false 70,
 gL 72 65 false 84 [(.t 71),(cI (-1000000000)),(cI 1000000000)],og 73 65 false (.un .not (.t 72)),pO 74 65 73])
 (.cond (.t 74)
 (.seq (.ops [mC 4 (.bool false)])
 .ret)
 .skip)))
 (.ops [mT 55 6,bN 56 .add (.t 55) (cI 1),mT 6 56]))))))
 (.seq (.ops [mC 4 (.bool true)])
 .ret)))))}
def bCg :aM:={np:=1,res:=[.tmp 2],keep:=false,body:=
 (.seq (.ops [bX 1 4 0,mC 2 (.bool false)])
 (.seq (.seq (.ops [fA 7 0 1,l1 8 7,lN 9 8,bN 10 .gtr (.t 9) (cI 320),mT 11 10,gF 12 11 false 1 1,g1 13 11 false 12,gN 14 11 false 13,
 gB 15 11 false .gtr (.t 14) (cI 320),pO 16 11 15,mT 17 16,gF 18 17 false 3 1,g1 19 17 false 18,gN 20 17 false 19,gB 21 17 false .gtr (.t 20) (cI 25),pO 22 17 21])
 (.cond (.t 22)
 (.seq (.ops [mC 2 (.bool false)])
 .ret)
 .skip))
 (.seq (.seq (.ops [mC 3 (.int .i64 0)])
 (.block 0 (.loop (.seq (.seq (.ops [mT 23 3,fA 24 3 1,l1 25 24,lN 26 25,bN 27 .lss (.t 23) (.t 26)])
 (.cond (.t 27)
 .skip
 (.exit 0)))
 (.seq (.block 1 (.seq (.ops [fA 30 3 1,l1 31 30,mT 32 3,iA 33 2 31 32,fA 34 0 33,l1 35 34,o 36 (.len .str (.t 35)),bN 37 .gtr (.t 36) (cI 40)])
 (.cond (.t 37)
 (.seq (.ops [mC 2 (.bool false)])
 .ret)
 .skip)))
 (.ops [mT 28 3,bN 29 .add (.t 28) (cI 1),mT 3 29]))))))
 (.seq (.seq (.ops [mC 4 (.int .i64 0)])
 (.block 2 (.loop (.seq (.seq (.ops [mT 38 4,fA 39 0 1,l1 40 39,lN 41 40,bN 42 .lss (.t 38) (.t 41)])
 (.cond (.t 42)
 .skip
 (.exit 2)))
 (.seq (.block 3 (.seq (.ops [fA 45 0 1,l1 46 45,mT 47 4,iA 48 4 46 47,lT 49 4 48,o 5 (.alloc [(.int .i64 0),(.int .i64 0),(.cl []),(.cl [])]),sT 4 5 49])
 (.seq (.seq (.ops [fA 50 2 5,l1 51 50,lN 52 51,bN 53 .gtr (.t 52) (cI 10),mT 54 53,gF 55 54 false 3 5,g1 56 54 false 55,gN 57 54 false 56,
 gB 58 54 false .gtr (.t 57) (cI 10),pO 59 54 58])
 (.cond (.t 59)
 (.seq (.ops [mC 2 (.bool false)])
 .ret)
 .skip))
 (.seq (.ops [mC 6 (.int .i64 0)])
 (.block 4 (.loop (.seq (.seq (.ops [mT 60 6,fA 61 3 5,l1 62 61,lN 63 62,bN 64 .lss (.t 60) (.t 63)])
 (.cond (.t 64)
 .skip
 (.exit 4)))
 (.seq (.block 5 (.seq (.ops [fA 67 3 5,l1 68 67,mT 69 6,iA 70 4 68 69,lT 71 4 70,cL 72 87 [(.t 71)],nT 73 72])
 (.cond (.t 73)
 (.seq (.ops [mC 2 (.bool false)])
 .ret)
 .skip)))
 (.ops [mT 65 6,bN 66 .add (.t 65) (cI 1),mT 6 66])))))))))
 (.ops [mT 43 4,bN 44 .add (.t 43) (cI 1),mT 4 44]))))))
 (.seq (.ops [mC 2 (.bool true)])
 .ret)))))}
def aWd :aM:={np:=3,res:=[.cell 6 true 8,.tmp 7,.tmp 8,.tmp 9],keep:=false,body:=
 (.seq (.ops [bX 3 4 0,bX 4 8 1,o 6 (.alloc [(.cl []),(.cl []),(.cl []),(.cl []),(.int .i64 0),(.cl []),(.cl []),(.int .i64 0)]),mC 7 (.cl []),mC 8 (.bool false),
 mC 9 (.int .i64 0)])
 (.seq (.seq (.ops [lT 13 4 3,lT 14 8 4,cL 15 31 [(.t 13),(.t 14)],bN 16 .neq (.t 15) (cI 0),mT 17 16,gM 18 17 false 2,gL 19 17 false 88 [(.t 18)],
 og 20 17 false (.un .not (.t 19)),pO 21 17 20])
 (.cond (.t 21)
 (.seq (.ops [o 22 (.build [(.cl []),(.cl []),(.cl []),(.cl []),(.int .i64 0),(.cl []),(.cl []),(.int .i64 0)] []),sT 8 6 22,mC 7 (.cl []),mC 8 (.bool false),
 mC 9 (.int .i64 2)])
 .ret)
 .skip))
 (.seq (.ops [lT 23 8 4,o 24 (.icall (.f 81) [(.t 23)]),mT 10 24])
 (.seq (.ops [mT 26 10,mT 27 2,o 28 (.icall (.f 89) [(.t 26),(.t 27)]),mT 25 28,o 29 (.ext 0 (.t 25)),o 30 (.ext 1 (.t 25)),mT 11 29,mT 12 30])
 (.seq (.ops [mT 31 10,nK 32 31,fA 33 0 32,lT 34 8 33,mT 35 11,mT 36 12,sT 8 6 34,mT 7 35,mT 8 36,mC 9 (.int .i64 0)])
 .ret)))))}
def bCh :aM:={np:=1,res:=[.tmp 2],keep:=false,body:=
 (.seq (.ops [mC 2 (.bool false)])
 (.seq (.ops [mT 3 0,cL 4 69 [(.t 3),(cI 1),(cI 200)],mT 2 4])
 .ret))}
def bF2 :aM:={np:=3,res:=[.tmp 6,.tmp 7],keep:=false,body:=
 (.seq (.ops [mC 6 (.int .i64 0),mC 7 (.int .i64 0)])
 (.seq (.seq (.ops [mT 12 0,mT 13 2,o 14 (.bslice 2 1 [(.int .i64 0)] [(0,(.t 12)),(1,(.t 13))]),lN 15 14,mC 16 (.int .i64 0)])
 (.block 0 (.loop (.seq (.ops [bN 17 .lss (.t 16) (.t 15)])
 (.seq (.cond (.t 17)
 .skip
 (.exit 0))
 (.seq (.block 1 (.seq (.ops [iA 18 1 14 16,l1 19 18,mT 9 19])
 (.seq (.ops [mT 20 9,bN 21 .lss (.t 20) (cI 0),mT 22 21,gM 23 22 false 9,gB 24 22 false .gtr (.t 23) (cI 1000000000),pO 25 22 24])
 (.cond (.t 25)
 (.seq (.ops [mC 6 (.int .i64 0),mC 7 (.int .i64 2)])
 .ret)
 .skip))))
 (.ops [bN 26 .add (.t 16) (cI 1),mT 16 26])))))))
 (.seq (.seq (.ops [mT 27 1,cL 28 88 [(.t 27)],nT 29 28])
 (.cond (.t 29)
 (.seq (.ops [mC 6 (.int .i64 0),mC 7 (.int .i64 2)])
 .ret)
 .skip))
 (.seq (.seq (.ops [mT 30 2,mT 31 1,bN 32 .geq (.t 30) (.t 31)])
 (.cond (.t 32)
 (.seq (.ops [mC 6 (.int .i64 0),mC 7 (.int .i64 7)])
 .ret)
 .skip))
 (.seq (.ops [mT 33 1,mT 34 2,bN 35 .sub (.t 33) (.t 34),mT 10 35])
 (.seq (.ops [mT 36 0,mT 37 10,bN 38 .quo (.t 36) (.t 37),mT 11 38])
 (.seq (.seq (.ops [mT 39 11,mT 40 10,bN 41 .mul (.t 39) (.t 40),mT 42 0,bN 43 .lss (.t 41) (.t 42),mT 44 43,gM 45 44 false 11,gB 46 44 false .eql (.t 45) (cI 0),
 pO 47 44 46])
 (.cond (.t 47)
 (.ops [mT 48 11,bN 49 .add (.t 48) (cI 1),mT 11 49])
 .skip))
 (.seq (.ops [mT 50 11,mT 6 50,mC 7 (.int .i64 0)])
 .ret))))))))}
def aWe :aM:={np:=3,res:=[.cell 6 true 5,.cell 7 true 5,.tmp 8,.tmp 9],keep:=false,body:=
 (.seq (.ops [bX 3 4 0,bX 4 5 1,o 6 (.alloc [(.cl []),(.cl []),(.cl []),(.cl []),(.int .i64 0)]),
 o 7 (.alloc [(.int .i64 0),(.int .i64 0),(.int .i64 0),(.int .i64 0),(.int .i64 0)]),mC 8 (.int .i64 0),mC 9 (.int .i64 0)])
 (.seq (.ops [lT 15 4 3,lT 16 5 4,cL 17 91 [(.t 15),(.t 16),(cI 0)],mT 14 17,o 18 (.ext 0 (.t 14)),o 19 (.ext 1 (.t 14)),o 20 (.ext 2 (.t 14)),sT 5 4 18,
 mT 10 19,mT 11 20])
 (.seq (.seq (.ops [mT 21 11,nT 22 21])
 (.cond (.t 22)
 (.seq (.ops [lT 23 5 4,o 24 (.build [(.int .i64 0),(.int .i64 0),(.int .i64 0),(.int .i64 0),(.int .i64 0)] []),sT 5 6 23,sT 5 7 24,mC 8 (.int .i64 0),
 mC 9 (.int .i64 8)])
 .ret)
 .skip))
 (.seq (.ops [lT 25 4 3,lT 26 5 4,cL 27 92 [(.t 25),(.t 26)],mT 12 27])
 (.seq (.seq (.ops [mT 28 12,lN 29 28,bN 30 .eql (.t 29) (cI 0)])
 (.cond (.t 30)
 (.seq (.ops [lT 31 5 4,o 32 (.build [(.int .i64 0),(.int .i64 0),(.int .i64 0),(.int .i64 0),(.int .i64 0)] []),sT 5 6 31,sT 5 7 32,mC 8 (.int .i64 0),
 mC 9 (.int .i64 5)])
 .ret)
 .skip))
 (.seq (.draw [lT 33 4 3,lT 34 5 4,mT 35 12,mT 36 2,mT 37 12,lN 38 37,cL 39 94 [(.t 36),(.t 38)],iA 40 1 35 39,l1 41 40,
 cL 42 93 [(.t 33),(.t 34),(.t 41)],
 o 13 (.alloc [(.cl []),(.cl []),(.cl []),(.cl []),(.int .i64 0),(.int .i64 0),(.int .i64 0),(.int .i64 0),(.int .i64 0),(.int .i64 0),(.int .i64 0)]),sT 11 13 42]
 [(0,6),(1,6),(0,10),(1,10),(5,10),(6,10),(7,10),(8,10),(9,10)])
 (.seq (.ops [lT 44 4 3,fA 45 0 13,lT 46 5 45,mT 47 10,bN 48 .add (.t 47) (cI 1),cL 49 91 [(.t 44),(.t 46),(.t 48)],mT 43 49,o 50 (.ext 0 (.t 43)),
 o 51 (.ext 1 (.t 43)),o 52 (.ext 2 (.t 43)),sT 5 4 50,mT 10 51,mT 11 52])
 (.seq (.seq (.ops [mT 53 11,nT 54 53,mT 55 54,gM 56 55 false 10,gB 57 55 false .gtr (.t 56) (cI 5000),pO 58 55 57])
 (.cond (.t 58)
 (.seq (.ops [lT 59 5 4,o 60 (.build [(.int .i64 0),(.int .i64 0),(.int .i64 0),(.int .i64 0),(.int .i64 0)] []),sT 5 6 59,sT 5 7 60,mC 8 (.int .i64 0),
 mC 9 (.int .i64 8)])
 .ret)
 .skip))
 (.seq (.draw [lT 61 5 4,fA 62 6 13,lT 63 5 62,mT 64 10,sT 5 6 61,sT 5 7 63,mT 8 64,mC 9 (.int .i64 0)]
 [(2,4)])
 .ret)))))))))}
def bCi :aM:={np:=2,res:=[.tmp 4],keep:=false,body:=
 (.seq (.ops [bX 2 4 0,bX 3 8 1,mC 4 (.bool false)])
 (.seq (.ops [lT 5 8 3,cL 6 29 [(.t 5)],mT 7 6,gT 8 7 true 4 2,gT 9 7 true 8 3,gL 10 7 true 32 [(.t 8),(.t 9)],pA 11 7 10,mT 4 11])
 .ret))}
def bCj :aM:={np:=2,res:=[.tmp 4],keep:=false,body:=
 (.seq (.ops [mC 4 (.bool false)])
 (.seq (.seq (.ops [mT 7 0,lN 8 7,mC 9 (.int .i64 0)])
 (.block 0 (.loop (.seq (.ops [bN 10 .lss (.t 9) (.t 8)])
 (.seq (.cond (.t 10)
 .skip
 (.exit 0))
 (.seq (.block 1 (.seq (.ops [mT 11 9,iA 12 1 7 9,l1 13 12,mT 5 11,mT 6 13])
 (.seq (.ops [mT 14 6,nT 15 14,mT 16 15,gM 17 16 true 1,gM 18 16 true 5,gL 19 16 true 97 [(.t 17),(.t 18)],og 20 16 true (.un .not (.t 19)),
 pA 21 16 20])
 (.cond (.t 21)
 (.seq (.ops [mC 4 (.bool false)])
 .ret)
 .skip))))
 (.ops [bN 22 .add (.t 9) (cI 1),mT 9 22])))))))
 (.seq (.ops [mC 4 (.bool true)])
 .ret)))}
def bCk :aM:={np:=1,res:=[.tmp 2],keep:=false,body:=
 (.seq (.ops [bX 1 5 0,mC 2 (.bool false)])
 (.seq (.seq (.ops [fA 6 0 1,l1 7 6,lN 8 7,bN 9 .gtr (.t 8) (cI 130),mT 10 9,gF 11 10 false 1 1,g1 12 10 false 11,gN 13 10 false 12,
 gB 14 10 false .gtr (.t 13) (cI 130),pO 15 10 14,mT 16 15,gF 17 16 false 2 1,g1 18 16 false 17,gN 19 16 false 18,gB 20 16 false .gtr (.t 19) (cI 110),pO 21 16 20,
 mT 22 21,gF 23 22 false 3 1,g1 24 22 false 23,gN 25 22 false 24,gB 26 22 false .gtr (.t 25) (cI 60),pO 27 22 26])
 (.cond (.t 27)
 (.seq (.ops [mC 2 (.bool false)])
 .ret)
 .skip))
 (.seq (.seq (.ops [mC 3 (.int .i64 0)])
 (.block 0 (.loop (.seq (.seq (.ops [mT 28 3,fA 29 0 1,l1 30 29,lN 31 30,bN 32 .lss (.t 28) (.t 31)])
 (.cond (.t 32)
 .skip
 (.exit 0)))
 (.seq (.block 1 (.seq (.ops [fA 35 0 1,l1 36 35,mT 37 3,iA 38 4 36 37,lT 39 4 38,o 4 (.alloc [(.int .i64 0),(.int .i64 0),(.cl []),(.cl [])]),sT 4 4 39])
 (.seq (.seq (.ops [fA 40 2 4,l1 41 40,cL 42 101 [(.t 41)],nT 43 42,mT 44 43,gF 45 44 false 3 4,g1 46 44 false 45,gN 47 44 false 46,
 gB 48 44 false .gtr (.t 47) (cI 50),pO 49 44 48])
 (.cond (.t 49)
 (.seq (.ops [mC 2 (.bool false)])
 .ret)
 .skip))
 (.seq (.ops [mC 5 (.int .i64 0)])
 (.block 2 (.loop (.seq (.seq (.ops [mT 50 5,fA 51 3 4,l1 52 51,lN 53 52,bN 54 .lss (.t 50) (.t 53)])
 (.cond (.t 54)
 .skip
 (.exit 2)))
 (.seq (.block 3 (.seq (.ops [fA 57 3 4,l1 58 57,mT 59 5,iA 60 3 58 59,fA 61 1 60,l1 62 61,cL 63 101 [(.t 62)],nT 64 63,mT 65 64,gF 66 65 false 3 4,
 g1 67 65 false 66,gM 68 65 false 5,og 69 65 false (.ia 3 (.t 67) (.t 68)),gF 70 65 false 2 69,g1 71 65 false 70,gL 72 65 false 101 [(.t 71)],
 og 73 65 false (.un .not (.t 72)),pO 74 65 73])
 (.cond (.t 74)
 (.seq (.ops [mC 2 (.bool false)])
 .ret)
 .skip)))
 (.ops [mT 55 5,bN 56 .add (.t 55) (cI 1),mT 5 56])))))))))
 (.ops [mT 33 3,bN 34 .add (.t 33) (cI 1),mT 3 34]))))))
 (.seq (.ops [mC 2 (.bool true)])
 .ret))))}
def bF3 :aM:={np:=0,res:=[.cell 0 true 4],keep:=false,body:=
 (.seq (.ops [o 0 (.alloc [(.cl []),(.cl []),(.int .i64 0),(.cl [])])])
 (.seq (.ops [o 1 (.build [(.int .i64 0),(.int .i64 0),(.cl []),(.cl [])] [(0,1,(cI 1)),(1,1,(cI 1))]),
 o 2 (.bslice 1 4 [(.int .i64 0),(.int .i64 0),(.cl []),(.cl [])] [(0,(.t 1))]),o 3 (.bslice 1 1 [(.int .i64 0)] [(0,(cI 0))]),
 o 4 (.build [(.cl []),(.cl []),(.int .i64 0),(.cl [])] [(0,1,(.t 2)),(1,1,(.t 3))]),sT 4 0 4])
 .ret))}
def bF4 :aM:={np:=0,res:=[.cell 0 true 5],keep:=false,body:=
 (.seq (.ops [o 0 (.alloc [(.cl []),(.cl []),(.cl []),(.cl []),(.int .i64 0)])])
 (.seq (.ops [cL 1 103 [(cI 2)],cL 2 102 [(.t 1)],cL 3 103 [(cI 3)],cL 4 104 [(.t 3)],cL 5 103 [(cI 4)],cL 6 104 [(.t 5)],
 cL 7 103 [(cI 1)],cL 8 104 [(.t 7)],cL 9 105 [(cI 7)],cL 10 104 [(.t 9)],
 o 11 (.bslice 5 4 [(.int .i64 0),(.int .i64 0),(.cl []),(.cl [])] [(0,(.t 2)),(1,(.t 4)),(2,(.t 6)),(3,(.t 8)),(4,(.t 10))]),
 o 12 (.bslice 1 1 [(.int .i64 0)] [(0,(cI 0))]),o 13 (.build [(.cl []),(.cl []),(.cl []),(.cl []),(.int .i64 0)] [(0,1,(.t 11)),(1,1,(.t 12))]),sT 5 0 13])
 .ret))}
def bF5 :aM:={np:=0,res:=[.cell 0 true 5],keep:=false,body:=
 (.seq (.ops [o 0 (.alloc [(.cl []),(.cl []),(.cl []),(.cl []),(.int .i64 0)])])
 (.seq (.ops [cL 1 103 [(cI 2)],cL 2 102 [(.t 1)],cL 3 103 [(cI 3)],cL 4 104 [(.t 3)],cL 5 105 [(cI 5)],cL 6 104 [(.t 5)],
 cL 7 103 [(cI 1)],cL 8 104 [(.t 7)],o 9 (.bslice 4 4 [(.int .i64 0),(.int .i64 0),(.cl []),(.cl [])] [(0,(.t 2)),(1,(.t 4)),(2,(.t 6)),(3,(.t 8))]),
 o 10 (.bslice 1 1 [(.int .i64 0)] [(0,(cI 0))]),o 11 (.build [(.cl []),(.cl []),(.cl []),(.cl []),(.int .i64 0)] [(0,1,(.t 9)),(1,1,(.t 10))]),sT 5 0 11])
 .ret))}
def bCl :aM:={np:=2,res:=[.tmp 4],keep:=false,body:=
 (.seq (.ops [bX 2 4 0,bX 3 5 1,mC 4 (.int .i64 0)])
 (.seq (.seq (.ops [lT 8 4 2,lT 9 5 3,cL 10 106 [(.t 8),(.t 9)],mT 7 10,o 11 (.ext 0 (.t 7)),o 12 (.ext 1 (.t 7)),mT 5 11,mT 6 12])
 (.seq (.ops [mT 13 6,nT 14 13])
 (.cond (.t 14)
 (.seq (.ops [mC 4 (.int .i64 2)])
 .ret)
 .skip)))
 (.seq (.ops [mC 4 (.int .i64 0)])
 .ret)))}
def aWf :aM:={np:=1,res:=[.tmp 2],keep:=true,amb:=true,body:=
 (.seq (.ops [mC 2 (.cl [])])
 (.seq (.seq (.ops [mT 3 0,o 4 (.bin .eql .slice (.t 3) (.c (.es true)))])
 (.cond (.t 4)
 (.seq (.ops [mC 2 (.cl [])])
 .ret)
 .skip))
 (.seq (.ops [o 5 (.bslice 0 1 [(.int .i64 0)] []),mT 6 0,o 7 (.append 1 (.t 5) (.t 6)),mT 2 7])
 .ret)))}
def bCm :aM:={np:=1,res:=[.tmp 2],keep:=false,body:=
 (.seq (.ops [bX 1 4 0,mC 2 .nilf])
 (.seq (.ops [o 3 (.mkfn 107 [] [(.t 1)]),mT 2 3])
 .ret))}
def bCn :aM:={np:=1,res:=[.tmp 2],keep:=false,body:=
 (.seq (.ops [bX 1 4 0,mC 2 (.bool false)])
 (.seq (.ops [fA 3 0 1,l1 4 3,bN 5 .eql (.t 4) (cI 6),mT 2 5])
 .ret))}
def bCo :aM:={np:=2,res:=[.cell 4 true 5],keep:=false,body:=
 (.seq (.ops [bX 2 5 0,o 4 (.alloc [(.cl []),(.cl []),(.cl []),(.cl []),(.int .i64 0)])])
 (.seq (.ops [o 13 (.mkmap),mT 5 13])
 (.seq (.seq (.ops [mT 14 1,lN 15 14,mC 16 (.int .i64 0)])
 (.block 0 (.loop (.seq (.ops [bN 17 .lss (.t 16) (.t 15)])
 (.seq (.cond (.t 17)
 .skip
 (.exit 0))
 (.seq (.block 1 (.seq (.ops [mT 18 16,iA 19 1 14 16,l1 20 19,mT 6 18,mT 7 20])
 (.ops [mT 21 5,mT 22 7,mT 23 6,on (.mput .num (.t 21) (.t 22) (.t 23))])))
 (.ops [bN 24 .add (.t 16) (cI 1),mT 16 24])))))))
 (.seq (.draw [fA 25 2 2,l1 26 25,cL 27 109 [(.t 26)],fA 28 3 2,l1 29 28,cL 30 62 [(.t 29)],fA 31 4 2,
 l1 32 31,o 33 (.build [(.cl []),(.cl []),(.cl []),(.cl []),(.int .i64 0)] [(2,1,(.t 27)),(3,1,(.t 30)),(4,1,(.t 32))]),
 o 8 (.alloc [(.cl []),(.cl []),(.cl []),(.cl []),(.int .i64 0)]),sT 5 8 33]
 [(2,4),(2,7),(5,7),(1,9),(2,9),(4,9),(5,9),(7,9)])
 (.seq (.seq (.ops [mT 34 1,lN 35 34,mC 36 (.int .i64 0)])
 (.block 2 (.loop (.seq (.ops [bN 37 .lss (.t 36) (.t 35)])
 (.seq (.cond (.t 37)
 .skip
 (.exit 2))
 (.seq (.block 3 (.seq (.ops [iA 38 1 34 36,l1 39 38,mT 10 39])
 (.draw [fA 40 0 8,l1 41 40,fA 42 0 2,l1 43 42,mT 44 10,iA 45 4 43 44,lT 46 4 45,mT 47 5,cL 48 110 [(.t 46),(.t 47)],
 o 49 (.bslice 1 4 [(.int .i64 0),(.int .i64 0),(.cl []),(.cl [])] [(0,(.t 48))]),o 50 (.append 4 (.t 41) (.t 49)),fA 51 0 8,sT 1 51 50]
 [(1,8),(1,9)])))
 (.ops [bN 52 .add (.t 36) (cI 1),mT 36 52])))))))
 (.seq (.seq (.ops [fA 53 1 2,l1 54 53,lN 55 54,mC 56 (.int .i64 0)])
 (.block 4 (.loop (.seq (.ops [bN 57 .lss (.t 56) (.t 55)])
 (.seq (.cond (.t 57)
 .skip
 (.exit 4))
 (.seq (.block 5 (.seq (.ops [iA 58 1 54 56,l1 59 58,mT 12 59])
 (.ops [fA 60 1 8,l1 61 60,mT 62 5,mT 63 12,o 64 (.mget .num (.int .i64 0) false (.t 62) (.t 63)),o 65 (.bslice 1 1 [(.int .i64 0)] [(0,(.t 64))]),
 o 66 (.append 1 (.t 61) (.t 65)),fA 67 1 8,sT 1 67 66])))
 (.ops [bN 68 .add (.t 56) (cI 1),mT 56 68])))))))
 (.seq (.ops [lT 69 5 8,sT 5 4 69])
 .ret)))))))}
def bCp :aM:={np:=1,res:=[.tmp 2],keep:=false,body:=
 (.seq (.ops [bX 1 4 0,mC 2 (.bool false)])
 (.seq (.ops [fA 10 0 1,l1 11 10,lN 12 11,mT 3 12])
 (.seq (.seq (.ops [mT 13 3,bN 14 .gtr (.t 13) (cI 300),mT 15 14,gF 16 15 false 1 1,g1 17 15 false 16,gN 18 15 false 17,gM 19 15 false 3,
 gL 20 15 false 111 [(.t 18),(cI 1),(.t 19)],og 21 15 false (.un .not (.t 20)),pO 22 15 21,mT 23 22,gF 24 23 false 2 1,g1 25 23 false 24,gF 26 23 false 1 1,
 g1 27 23 false 26,gN 28 23 false 27,gB 29 23 false .sub (.t 28) (cI 1),gL 30 23 false 111 [(.t 25),(cI 0),(.t 29)],og 31 23 false (.un .not (.t 30)),pO 32 23 31,
 mT 33 32,gF 34 33 false 3 1,g1 35 33 false 34,gL 36 33 false 112 [(.t 35)],og 37 33 false (.un .not (.t 36)),pO 38 33 37])
 (.cond (.t 38)
 (.seq (.ops [mC 2 (.bool false)])
 .ret)
 .skip))
 (.seq (.ops [mT 39 3,o 40 (.mklen 1 [(.bool false)] (.t 39) (.t 39)),mT 4 40])
 (.seq (.seq (.ops [mC 5 (.int .i64 0)])
 (.block 0 (.loop (.seq (.seq (.ops [mT 41 5,fA 42 1 1,l1 43 42,lN 44 43,bN 45 .lss (.t 41) (.t 44)])
 (.cond (.t 45)
 .skip
 (.exit 0)))
 (.seq (.block 1 (.seq (.seq (.ops [fA 48 1 1,l1 49 48,mT 50 5,iA 51 1 49 50,l1 52 51,mT 53 3,bN 54 .sub (.t 53) (cI 1),cL 55 111 [(.t 52),(cI 0),(.t 54)],
 nT 56 55,mT 57 56,gM 58 57 false 4,gF 59 57 false 1 1,g1 60 57 false 59,gM 61 57 false 5,og 62 57 false (.ia 1 (.t 60) (.t 61)),g1 63 57 false 62,
 og 64 57 false (.ia 1 (.t 58) (.t 63)),g1 65 57 false 64,pO 66 57 65])
 (.cond (.t 66)
 (.seq (.ops [mC 2 (.bool false)])
 .ret)
 .skip))
 (.ops [mT 67 4,fA 68 1 1,l1 69 68,mT 70 5,iA 71 1 69 70,l1 72 71,iA 73 1 67 72,on (.store 1 (.t 73) (cB true))])))
 (.ops [mT 46 5,bN 47 .add (.t 46) (cI 1),mT 5 47]))))))
 (.seq (.seq (.ops [mC 6 (.int .i64 0)])
 (.block 2 (.loop (.seq (.seq (.ops [mT 74 6,mT 75 3,bN 76 .lss (.t 74) (.t 75)])
 (.cond (.t 76)
 .skip
 (.exit 2)))
 (.seq (.block 3 (.seq (.seq (.draw [lT 79 4 1,fA 80 0 1,l1 81 80,mT 82 6,iA 83 4 81 82,lT 84 4 83,cL 85 113 [(.t 79),(.t 84)],nT 86 85]
 [])
 (.cond (.t 86)
 (.seq (.ops [mC 2 (.bool false)])
 .ret)
 .skip))
 (.seq (.ops [mC 7 (.int .i64 0)])
 (.block 4 (.loop (.seq (.seq (.ops [mT 87 7,fA 88 0 1,l1 89 88,mT 90 6,iA 91 4 89 90,fA 92 2 91,l1 93 92,lN 94 93,bN 95 .lss (.t 87) (.t 94)])
 (.cond (.t 95)
 .skip
 (.exit 4)))
 (.seq (.block 5 (.seq (.ops [fA 98 0 1,l1 99 98,mT 100 6,iA 101 4 99 100,fA 102 2 101,l1 103 102,mT 104 7,iA 105 1 103 104,l1 106 105,mT 8 106])
 (.seq (.seq (.ops [mT 107 8,mT 108 6,bN 109 .add (.t 108) (cI 1),mT 110 3,bN 111 .sub (.t 110) (cI 1),cL 112 111 [(.t 107),(.t 109),(.t 111)],nT 113 112,
 mT 114 113,gM 115 114 false 4,gM 116 114 false 8,og 117 114 false (.ia 1 (.t 115) (.t 116)),g1 118 114 false 117,pO 119 114 118])
 (.cond (.t 119)
 (.seq (.ops [mC 2 (.bool false)])
 .ret)
 .skip))
 (.ops [mT 120 4,mT 121 8,iA 122 1 120 121,on (.store 1 (.t 122) (cB true))]))))
 (.ops [mT 96 7,bN 97 .add (.t 96) (cI 1),mT 7 97]))))))))
 (.ops [mT 77 6,bN 78 .add (.t 77) (cI 1),mT 6 78]))))))
 (.seq (.seq (.ops [mC 9 (.int .i64 0)])
 (.block 6 (.loop (.seq (.seq (.ops [mT 123 9,mT 124 3,bN 125 .lss (.t 123) (.t 124)])
 (.cond (.t 125)
 .skip
 (.exit 6)))
 (.seq (.block 7 (.seq (.ops [mT 128 4,mT 129 9,iA 130 1 128 129,l1 131 130,nT 132 131])
 (.cond (.t 132)
 (.seq (.ops [mC 2 (.bool false)])
 .ret)
 .skip)))
 (.ops [mT 126 9,bN 127 .add (.t 126) (cI 1),mT 9 127]))))))
 (.seq (.ops [mC 2 (.bool true)])
 .ret))))))))}
def bCq :aM:={np:=2,res:=[.tmp 4],keep:=false,body:=
 (.seq (.ops [bX 2 5 0,mC 4 (.bool false)])
 (.seq (.ops [fA 5 0 2,l1 6 5,mT 7 1,iA 8 4 6 7,fA 9 0 8,l1 10 9,bN 11 .eql (.t 10) (cI 6),mT 4 11])
 .ret))}
def bCr :aM:={np:=1,res:=[.tmp 2],keep:=false,body:=
 (.seq (.ops [bX 1 4 0,mC 2 (.cl [])])
 (.seq (.ops [fA 5 2 1,l1 6 5,o 7 (.icall (.f 114) [(.c (.cl [])),(.t 6)]),mT 3 7])
 (.seq (.seq (.ops [mC 4 (.int .i64 0)])
 (.block 0 (.loop (.seq (.seq (.ops [mT 8 4,fA 9 3 1,l1 10 9,lN 11 10,bN 12 .lss (.t 8) (.t 11)])
 (.cond (.t 12)
 .skip
 (.exit 0)))
 (.seq (.block 1 (.draw [mT 15 3,fA 16 3 1,l1 17 16,mT 18 4,iA 19 3 17 18,fA 20 1 19,l1 21 20,o 22 (.icall (.f 114) [(.t 15),(.t 21)]),fA 23 3 1,l1 24 23,
 mT 25 4,iA 26 3 24 25,fA 27 2 26,l1 28 27,o 29 (.icall (.f 114) [(.t 22),(.t 28)]),mT 3 29]
 [(7,9),(7,11),(7,13)]))
 (.ops [mT 13 4,bN 14 .add (.t 13) (cI 1),mT 4 14]))))))
 (.seq (.ops [mT 30 3,mT 2 30])
 .ret))))}
def bCs :aM:={np:=3,res:=[.tmp 6],keep:=false,body:=
 (.seq (.ops [mC 6 (.bool false)])
 (.seq (.ops [mT 7 0,mT 8 1,bN 9 .geq (.t 7) (.t 8),mT 10 9,gM 11 10 true 0,gM 12 10 true 2,gB 13 10 true .leq (.t 11) (.t 12),pA 14 10 13,mT 6 14])
 .ret))}
def bCt :aM:={np:=2,res:=[.tmp 4],keep:=false,body:=
 (.seq (.ops [mC 4 (.bool false)])
 (.seq (.seq (.ops [mC 5 (.int .i64 0)])
 (.block 0 (.loop (.seq (.seq (.ops [mT 6 5,mT 7 0,lN 8 7,bN 9 .lss (.t 6) (.t 8)])
 (.cond (.t 9)
 .skip
 (.exit 0)))
 (.seq (.block 1 (.seq (.ops [mT 12 0,mT 13 5,iA 14 1 12 13,l1 15 14,mT 16 1,bN 17 .eql (.t 15) (.t 16)])
 (.cond (.t 17)
 (.seq (.ops [mC 4 (.bool true)])
 .ret)
 .skip)))
 (.ops [mT 10 5,bN 11 .add (.t 10) (cI 1),mT 5 11]))))))
 (.seq (.ops [mC 4 (.bool false)])
 .ret)))}
def bF6 :aM:={np:=2,res:=[.tmp 4],keep:=false,body:=
 (.seq (.ops [mC 4 (.bool false)])
 (.seq (.seq (.ops [mT 6 0,lN 7 6,mT 8 1,lN 9 8,bN 10 .neq (.t 7) (.t 9)])
 (.cond (.t 10)
 (.seq (.ops [mC 4 (.bool false)])
 .ret)
 .skip))
 (.seq (.seq (.ops [mC 5 (.int .i64 0)])
 (.block 0 (.loop (.seq (.seq (.ops [mT 11 5,mT 12 0,lN 13 12,bN 14 .lss (.t 11) (.t 13)])
 (.cond (.t 14)
 .skip
 (.exit 0)))
 (.seq (.block 1 (.seq (.draw [mT 17 0,mT 18 5,iA 19 2 17 18,lT 20 2 19,mT 21 1,mT 22 5,iA 23 2 21 22,lT 24 2 23,o 25 (.bin .neq (.agg [.num,.num]) (.t 20) (.t 24))]
 [])
 (.cond (.t 25)
 (.seq (.ops [mC 4 (.bool false)])
 .ret)
 .skip)))
 (.ops [mT 15 5,bN 16 .add (.t 15) (cI 1),mT 5 16]))))))
 (.seq (.ops [mC 4 (.bool true)])
 .ret))))}
def bF7 :aM:={np:=2,res:=[.tmp 4],keep:=false,body:=
 (.seq (.ops [bX 2 4 0,bX 3 4 1,mC 4 (.bool false)])
 (.seq (.seq (.ops [fA 8 0 2,l1 9 8,fA 10 0 3,l1 11 10,bN 12 .neq (.t 9) (.t 11),mT 13 12,gF 14 13 false 1 2,g1 15 13 false 14,gF 16 13 false 1 3,g1 17 13 false 16,
 gB 18 13 false .neq (.t 15) (.t 17),pO 19 13 18,mT 20 19,gF 21 20 false 2 2,g1 22 20 false 21,gF 23 20 false 2 3,g1 24 20 false 23,
 gL 25 20 false 115 [(.t 22),(.t 24)],og 26 20 false (.un .not (.t 25)),pO 27 20 26,mT 28 27,gF 29 28 false 3 2,g1 30 28 false 29,gN 31 28 false 30,
 gF 32 28 false 3 3,g1 33 28 false 32,gN 34 28 false 33,gB 35 28 false .neq (.t 31) (.t 34),pO 36 28 35])
 (.cond (.t 36)
 (.seq (.ops [mC 4 (.bool false)])
 .ret)
 .skip))
 (.seq (.seq (.ops [mC 5 (.int .i64 0)])
 (.block 0 (.loop (.seq (.seq (.ops [mT 37 5,fA 38 3 2,l1 39 38,lN 40 39,bN 41 .lss (.t 37) (.t 40)])
 (.cond (.t 41)
 .skip
 (.exit 0)))
 (.seq (.block 1 (.seq (.draw [fA 44 3 2,l1 45 44,mT 46 5,iA 47 3 45 46,lT 48 3 47,fA 49 3 3,l1 50 49,mT 51 5,iA 52 3 50 51,lT 53 3 52,
 o 6 (.alloc [(.int .i64 0),(.cl []),(.cl [])]),o 7 (.alloc [(.int .i64 0),(.cl []),(.cl [])]),sT 3 6 48,sT 3 7 53]
 [(1,10),(3,10),(4,10),(6,10),(8,10),(9,10),(1,11),(3,11),(4,11),(6,11),(8,11),(9,11),(10,11),(6,12),(8,12),(9,12)])
 (.seq (.ops [fA 54 0 6,l1 55 54,fA 56 0 7,l1 57 56,bN 58 .neq (.t 55) (.t 57),mT 59 58,gF 60 59 false 1 6,g1 61 59 false 60,gF 62 59 false 1 7,g1 63 59 false 62,
 gL 64 59 false 115 [(.t 61),(.t 63)],og 65 59 false (.un .not (.t 64)),pO 66 59 65,mT 67 66,gF 68 67 false 2 6,g1 69 67 false 68,gF 70 67 false 2 7,
 g1 71 67 false 70,gL 72 67 false 115 [(.t 69),(.t 71)],og 73 67 false (.un .not (.t 72)),pO 74 67 73])
 (.cond (.t 74)
 (.seq (.ops [mC 4 (.bool false)])
 .ret)
 .skip))))
 (.ops [mT 42 5,bN 43 .add (.t 42) (cI 1),mT 5 43]))))))
 (.seq (.ops [mC 4 (.bool true)])
 .ret))))}
def bF8 :aM:={np:=2,res:=[.tmp 4],keep:=false,body:=
 (.seq (.ops [mC 4 (.cl [])])
 (.seq (.ops [mC 5 (.cl [])])
 (.seq (.seq (.ops [mC 6 (.int .i64 0)])
 (.block 0 (.loop (.seq (.seq (.ops [mT 8 6,mT 9 0,lN 10 9,bN 11 .lss (.t 8) (.t 10)])
 (.cond (.t 11)
 .skip
 (.exit 0)))
 (.seq (.block 1 (.seq (.ops [mT 14 0,mT 15 6,iA 16 2 14 15,lT 17 2 16,o 7 (.alloc [(.int .i64 0),(.int .i64 0)]),sT 2 7 17])
 (.seq (.seq (.ops [fA 18 0 7,l1 19 18,bN 20 .eql (.t 19) (cI 5)])
 (.cond (.t 20)
 (.ops [mT 21 1,fA 22 1 7,l1 23 22,cL 24 74 [(.t 21),(.t 23)],fA 25 1 7,sT 1 25 24])
 .skip))
 (.ops [mT 26 5,lT 27 2 7,o 28 (.bslice 1 2 [(.int .i64 0),(.int .i64 0)] [(0,(.t 27))]),o 29 (.append 2 (.t 26) (.t 28)),mT 5 29]))))
 (.ops [mT 12 6,bN 13 .add (.t 12) (cI 1),mT 6 13]))))))
 (.seq (.ops [mT 30 5,mT 4 30])
 .ret))))}
def bF9 :aM:={np:=2,res:=[.tmp 4],keep:=false,body:=
 (.seq (.ops [mC 4 (.int .i64 0)])
 (.seq (.ops [mC 5 (.int .i64 0)])
 (.seq (.block 0 (.loop (.seq (.seq (.ops [mT 6 5,mT 7 0,lN 8 7,bN 9 .lss (.t 6) (.t 8),mT 10 9,gM 11 10 true 0,gM 12 10 true 5,og 13 10 true (.ia 1 (.t 11) (.t 12)),
 g1 14 10 true 13,gM 15 10 true 1,gB 16 10 true .neq (.t 14) (.t 15),pA 17 10 16])
 (.cond (.t 17)
 .skip
 (.exit 0)))
 (.block 1 (.ops [mT 18 5,bN 19 .add (.t 18) (cI 1),mT 5 19])))))
 (.seq (.ops [mT 20 5,mT 4 20])
 .ret))))}
def bCu :aM:={np:=1,res:=[.cell 2 true 5],keep:=false,body:=
 (.seq (.ops [bX 1 5 0,o 2 (.alloc [(.cl []),(.cl []),(.cl []),(.cl []),(.int .i64 0)])])
 (.seq (.draw [fA 6 1 1,l1 7 6,cL 8 62 [(.t 7)],fA 9 2 1,l1 10 9,cL 11 109 [(.t 10)],fA 12 3 1,l1 13 12,
 cL 14 62 [(.t 13)],fA 15 4 1,l1 16 15,
 o 17 (.build [(.cl []),(.cl []),(.cl []),(.cl []),(.int .i64 0)] [(1,1,(.t 8)),(2,1,(.t 11)),(3,1,(.t 14)),(4,1,(.t 16))]),
 o 3 (.alloc [(.cl []),(.cl []),(.cl []),(.cl []),(.int .i64 0)]),sT 5 3 17]
 [(2,4),(2,7),(5,7),(2,10),(5,10),(8,10),(1,12),(2,12),(4,12),(5,12),(7,12),(8,12),(10,12)])
 (.seq (.seq (.ops [fA 18 0 1,l1 19 18,lN 20 19,mC 21 (.int .i64 0)])
 (.block 0 (.loop (.seq (.ops [bN 22 .lss (.t 21) (.t 20)])
 (.seq (.cond (.t 22)
 .skip
 (.exit 0))
 (.seq (.block 1 (.seq (.ops [iA 23 4 19 21,lT 24 4 23,o 5 (.alloc [(.int .i64 0),(.int .i64 0),(.cl []),(.cl [])]),sT 4 5 24])
 (.draw [fA 25 0 3,l1 26 25,lT 27 4 5,cL 28 110 [(.t 27),(.c .nilm)],o 29 (.bslice 1 4 [(.int .i64 0),(.int .i64 0),(.cl []),(.cl [])] [(0,(.t 28))]),
 o 30 (.append 4 (.t 26) (.t 29)),fA 31 0 3,sT 1 31 30]
 [(1,3),(1,4)])))
 (.ops [bN 32 .add (.t 21) (cI 1),mT 21 32])))))))
 (.seq (.ops [lT 33 5 3,sT 5 2 33])
 .ret))))}
def aZi :aM:={np:=1,res:=[],keep:=false,body:=
 (.seq (.ops [bX 1 1 0])
 (.seq (.draw [l1 5 1,l1 6 1,nK 7 6,fA 8 0 7,fA 9 0 8,fA 10 0 9,l1 11 10,lN 12 11,o 13 (.mklen 1 [(.int .i64 0)] (.t 12) (.t 12)),nK 14 5,fA 15 0 14,fA 16 6 15,
 sT 1 16 13]
 [(0,8)])
 (.seq (.ops [l1 17 1,nK 18 17,fA 19 0 18,fA 20 0 19,fA 21 0 20,l1 22 21,lN 23 22,mC 24 (.int .i64 0)])
 (.block 0 (.loop (.seq (.ops [bN 25 .lss (.t 24) (.t 23)])
 (.seq (.cond (.t 25)
 .skip
 (.exit 0))
 (.seq (.block 1 (.seq (.ops [mT 26 24,iA 27 4 22 24,lT 28 4 27,o 2 (.alloc [(.int .i64 0)]),o 3 (.alloc [(.int .i64 0),(.int .i64 0),(.cl []),(.cl [])]),sT 1 2 26,
 sT 4 3 28])
 (.block 2 (.seq (.ops [lT 30 4 3,cL 31 64 [(.t 30)],mT 29 31])
 (.cond (.t 29)
 (.draw [l1 32 1,nK 33 32,fA 34 0 33,fA 35 6 34,l1 36 35,l1 37 2,iA 38 1 36 37,on (.store 1 (.t 38) (cI 1))]
 [])
 (.seq (.ops [l1 40 1,cL 41 116 [(.t 40)],nT 42 41,mT 43 42,g1 44 43 true 1,g1 45 43 true 2,gL 46 43 true 117 [(.t 44),(.t 45)],
 pA 47 43 46,mT 39 47])
 (.cond (.t 39)
 (.seq (.draw [l1 48 1,nK 49 48,fA 50 0 49,fA 51 6 50,l1 52 51,l1 53 2,iA 54 1 52 53,on (.store 1 (.t 54) (cI 2))]
 [])
 (.seq (.ops [lT 55 4 3,cL 56 63 [(.t 55)]])
 (.block 3 (.rangeF (.t 56) [57]
 (.ops [mT 4 57])
 (.block 4 (.seq (.ops [l1 58 1,mT 59 4,cL 60 117 [(.t 58),(.t 59)],nT 61 60])
 (.cond (.t 61)
 (.draw [l1 62 1,nK 63 62,fA 64 0 63,fA 65 6 64,l1 66 65,l1 67 2,iA 68 1 66 67,on (.store 1 (.t 68) (cI 1))]
 [])
 .skip)))))))
 .skip)))))))
 (.ops [bN 69 .add (.t 24) (cI 1),mT 24 69])))))))))}
def bCv :aM:={np:=1,res:=[.cell 2 false 1],keep:=false,body:=
 (.seq (.ops [bX 1 1 0,o 2 (.alloc [(.bool false)])])
 (.seq (.ops [l1 8 1,nK 9 8,fA 10 0 9,fA 11 0 10,fA 12 0 11,l1 13 12,lN 14 13,mT 3 14])
 (.seq (.seq (.ops [l1 15 1,nK 16 15,fA 17 0 16,fA 18 5 17,l1 19 18,lN 20 19,mT 21 3,bN 22 .neq (.t 20) (.t 21),mT 23 22,g1 24 23 false 1,
 og 25 23 false (.nilck (.t 24)),gF 26 23 false 0 25,gF 27 23 false 6 26,g1 28 23 false 27,gN 29 23 false 28,gM 30 23 false 3,gB 31 23 false .neq (.t 29) (.t 30),
 pO 32 23 31,mT 33 32,g1 34 33 false 1,og 35 33 false (.nilck (.t 34)),gF 36 33 false 0 35,gF 37 33 false 7 36,g1 38 33 false 37,gB 39 33 false .lss (.t 38) (cI 0),
 pO 40 33 39,mT 41 40,g1 42 41 false 1,og 43 41 false (.nilck (.t 42)),gF 44 41 false 0 43,gF 45 41 false 7 44,g1 46 41 false 45,gB 47 41 false .geq (.t 46) (cI 4),
 pO 48 41 47])
 (.cond (.t 48)
 (.seq (.ops [on (.store 1 (.t 2) (cB false))])
 .ret)
 .skip))
 (.seq (.seq (.ops [mT 49 3,mC 50 (.int .i64 0)])
 (.block 0 (.loop (.seq (.ops [bN 51 .lss (.t 50) (.t 49)])
 (.seq (.cond (.t 51)
 .skip
 (.exit 0))
 (.seq (.block 1 (.seq (.ops [mT 52 50,mT 4 52])
 (.seq (.ops [l1 53 1,nK 54 53,fA 55 0 54,fA 56 5 55,l1 57 56,mT 58 4,iA 59 1 57 58,l1 60 59,bN 61 .lss (.t 60) (cI 0),mT 62 61,g1 63 62 false 1,
 og 64 62 false (.nilck (.t 63)),gF 65 62 false 0 64,gF 66 62 false 5 65,g1 67 62 false 66,gM 68 62 false 4,og 69 62 false (.ia 1 (.t 67) (.t 68)),g1 70 62 false 69,
 gB 71 62 false .gtr (.t 70) (cI 2),pO 72 62 71,mT 73 72,g1 74 73 false 1,og 75 73 false (.nilck (.t 74)),gF 76 73 false 0 75,gF 77 73 false 6 76,g1 78 73 false 77,
 gM 79 73 false 4,og 80 73 false (.ia 1 (.t 78) (.t 79)),g1 81 73 false 80,gB 82 73 false .lss (.t 81) (cI 0),pO 83 73 82,mT 84 83,g1 85 84 false 1,
 og 86 84 false (.nilck (.t 85)),gF 87 84 false 0 86,gF 88 84 false 6 87,g1 89 84 false 88,gM 90 84 false 4,og 91 84 false (.ia 1 (.t 89) (.t 90)),g1 92 84 false 91,
 gB 93 84 false .gtr (.t 92) (cI 2),pO 94 84 93])
 (.cond (.t 94)
 (.seq (.ops [on (.store 1 (.t 2) (cB false))])
 .ret)
 .skip))))
 (.ops [bN 95 .add (.t 50) (cI 1),mT 50 95])))))))
 (.seq (.seq (.ops [l1 96 1,nK 97 96,fA 98 0 97,fA 99 0 98,fA 100 0 99,l1 101 100,lN 102 101,mC 103 (.int .i64 0)])
 (.block 2 (.loop (.seq (.ops [bN 104 .lss (.t 103) (.t 102)])
 (.seq (.cond (.t 104)
 .skip
 (.exit 2))
 (.seq (.block 3 (.seq (.ops [mT 105 103,iA 106 4 101 103,lT 107 4 106,o 6 (.alloc [(.int .i64 0),(.int .i64 0),(.cl []),(.cl [])]),mT 5 105,sT 4 6 107])
 (.seq (.seq (.ops [l1 108 1,nK 109 108,fA 110 0 109,fA 111 6 110,l1 112 111,mT 113 5,iA 114 1 112 113,l1 115 114,bN 116 .eql (.t 115) (cI 0),mT 117 116,
 gT 118 117 true 4 6,gL 119 117 true 64 [(.t 118)],gM 120 117 true 119,g1 121 120 false 1,gM 122 120 false 5,
 gL 123 120 false 117 [(.t 121),(.t 122)],gM 124 120 false 123,g1 125 124 true 1,gL 126 124 true 116 [(.t 125)],
 og 127 124 true (.un .not (.t 126)),og 128 120 false (.pick (.t 124) (.t 127) (cB false)),og 129 117 true (.pick (.t 120) (cB true) (.t 128)),pA 130 117 129])
 (.cond (.t 130)
 (.seq (.ops [on (.store 1 (.t 2) (cB false))])
 .ret)
 .skip))
 (.seq (.seq (.ops [l1 131 1,nK 132 131,fA 133 0 132,fA 134 6 133,l1 135 134,mT 136 5,iA 137 1 135 136,l1 138 137,bN 139 .neq (.t 138) (cI 2)])
 (.cond (.t 139)
 (.exit 3)
 .skip))
 (.seq (.ops [lT 140 4 6,cL 141 63 [(.t 140)]])
 (.block 4 (.rangeF (.t 141) [142]
 (.ops [mT 7 142])
 (.block 5 (.seq (.ops [l1 143 1,nK 144 143,fA 145 0 144,fA 146 6 145,l1 147 146,mT 148 7,iA 149 1 147 148,l1 150 149,bN 151 .eql (.t 150) (cI 0)])
 (.cond (.t 151)
 (.seq (.ops [on (.store 1 (.t 2) (cB false))])
 .ret)
 .skip))))))))))
 (.ops [bN 152 .add (.t 103) (cI 1),mT 103 152])))))))
 (.seq (.ops [on (.store 1 (.t 2) (cB true))])
 .ret))))))}
def bCw :aM:={np:=1,res:=[.tmp 2],keep:=false,body:=
 (.seq (.ops [mC 2 (.bool false)])
 (.seq (.ops [mT 3 0,bN 4 .eql (.t 3) (cI 3),mT 2 4])
 .ret))}
def bCx :aM:={np:=2,res:=[.tmp 4],keep:=false,body:=
 (.seq (.ops [bX 2 5 0,bX 3 5 1,mC 4 (.bool false)])
 (.seq (.seq (.draw [fA 7 0 3,l1 8 7,lN 9 8,fA 10 0 2,l1 11 10,lN 12 11,bN 13 .lss (.t 9) (.t 12),mT 14 13,gF 15 14 false 1 3,g1 16 14 false 15,gN 17 14 false 16,
 gF 18 14 false 1 2,g1 19 14 false 18,gN 20 14 false 19,gB 21 14 false .lss (.t 17) (.t 20),pO 22 14 21,mT 23 22,gF 24 23 false 1 2,g1 25 23 false 24,
 gF 26 23 false 1 3,g1 27 23 false 26,gF 28 23 false 1 2,g1 29 23 false 28,gN 30 23 false 29,og 31 23 false (.slice false 1 (.t 27) none (some (.t 30)) none),
 gL 32 23 false 118 [(.t 25),(.t 31)],og 33 23 false (.un .not (.t 32)),pO 34 23 33]
 [])
 (.cond (.t 34)
 (.seq (.ops [mC 4 (.bool false)])
 .ret)
 .skip))
 (.seq (.seq (.ops [fA 35 0 2,l1 36 35,lN 37 36,mC 38 (.int .i64 0)])
 (.block 0 (.loop (.seq (.ops [bN 39 .lss (.t 38) (.t 37)])
 (.seq (.cond (.t 39)
 .skip
 (.exit 0))
 (.seq (.block 1 (.seq (.ops [mT 40 38,iA 41 4 36 38,lT 42 4 41,o 6 (.alloc [(.int .i64 0),(.int .i64 0),(.cl []),(.cl [])]),mT 5 40,sT 4 6 42])
 (.seq (.draw [fA 43 0 6,l1 44 43,fA 45 0 3,l1 46 45,mT 47 5,iA 48 4 46 47,fA 49 0 48,l1 50 49,bN 51 .neq (.t 44) (.t 50)]
 [])
 (.cond (.t 51)
 (.seq (.ops [mC 4 (.bool false)])
 .ret)
 .skip))))
 (.ops [bN 52 .add (.t 38) (cI 1),mT 38 52])))))))
 (.seq (.ops [mC 4 (.bool true)])
 .ret))))}
def aZj :aM:={np:=1,res:=[.tmp 2],keep:=false,body:=
 (.seq (.ops [bX 1 8 0,mC 2 .nilp])
 (.seq (.draw [fA 3 0 1,lT 4 5 3,cL 5 75 [(.t 4)],fA 6 5 1,l1 7 6,cL 8 62 [(.t 7)],fA 9 6 1,l1 10 9,
 cL 11 62 [(.t 10)],fA 12 7 1,l1 13 12,
 o 14 (.build [(.cl []),(.cl []),(.cl []),(.cl []),(.int .i64 0),(.cl []),(.cl []),(.int .i64 0)] [(0,5,(.t 5)),(5,1,(.t 8)),(6,1,(.t 11)),(7,1,(.t 13))]),
 o 15 (.build [(.cl []),(.cl []),(.cl []),(.cl []),(.int .i64 0),(.cl []),(.cl []),(.int .i64 0)] [(0,8,(.t 14))]),bX 16 8 15,mT 2 16]
 [(2,4),(2,7),(5,7),(2,10),(5,10),(8,10)])
 .ret))}
def bCy :aM:={np:=2,res:=[.tmp 4],keep:=false,body:=
 (.seq (.ops [bX 3 5 1,mC 4 (.int .i64 0)])
 (.seq (.ops [mC 5 (.int .i64 0)])
 (.seq (.seq (.ops [fA 8 0 3,l1 9 8,lN 10 9,mC 11 (.int .i64 0)])
 (.block 0 (.loop (.seq (.ops [bN 12 .lss (.t 11) (.t 10)])
 (.seq (.cond (.t 12)
 .skip
 (.exit 0))
 (.seq (.block 1 (.seq (.ops [mT 13 11,iA 14 4 9 11,lT 15 4 14,o 7 (.alloc [(.int .i64 0),(.int .i64 0),(.cl []),(.cl [])]),mT 6 13,sT 4 7 15])
 (.seq (.ops [mT 16 6,mT 17 0,nK 18 17,fA 19 0 18,fA 20 6 19,l1 21 20,lN 22 21,bN 23 .geq (.t 16) (.t 22)])
 (.cond (.t 23)
 (.seq (.draw [mT 24 0,mT 25 0,mT 26 0,nK 27 26,fA 28 0 27,fA 29 5 28,l1 30 29,o 31 (.bslice 1 1 [(.int .i64 0)] [(0,(cI 0))]),o 32 (.append 1 (.t 30) (.t 31)),mT 33 0,
 nK 34 33,fA 35 0 34,fA 36 6 35,l1 37 36,o 38 (.bslice 1 1 [(.int .i64 0)] [(0,(cI 1))]),o 39 (.append 1 (.t 37) (.t 38)),nK 40 24,fA 41 0 40,fA 42 5 41,sT 1 42 32,
 nK 43 25,fA 44 0 43,fA 45 6 44,sT 1 45 39]
 [(6,7),(7,13),(8,13),(6,14),(7,14),(8,14),(13,14)])
 (.ops [mT 46 5,bN 47 .add (.t 46) (cI 1),mT 5 47]))
 (.seq (.draw [mT 48 0,nK 49 48,fA 50 0 49,fA 51 6 50,l1 52 51,mT 53 6,iA 54 1 52 53,l1 55 54,bN 56 .eql (.t 55) (cI 2),mT 57 56,gT 58 57 true 4 7,gM 59 57 true 0,
 og 60 57 true (.nilck (.t 59)),gF 61 57 true 0 60,gF 62 57 true 0 61,gF 63 57 true 0 62,g1 64 57 true 63,gM 65 57 true 6,og 66 57 true (.ia 4 (.t 64) (.t 65)),
 gT 67 57 true 4 66,gL 68 57 true 119 [(.t 58),(.t 67)],og 69 57 true (.un .not (.t 68)),pA 70 57 69]
 [])
 (.cond (.t 70)
 (.seq (.ops [mT 71 0,nK 72 71,fA 73 0 72,fA 74 6 73,l1 75 74,mT 76 6,iA 77 1 75 76,on (.store 1 (.t 77) (cI 1))])
 (.ops [mT 78 5,bN 79 .add (.t 78) (cI 1),mT 5 79]))
 .skip))))))
 (.ops [bN 80 .add (.t 11) (cI 1),mT 11 80])))))))
 (.seq (.ops [mT 81 0,lT 82 5 3,nK 83 81,fA 84 0 83,fA 85 0 84,sT 5 85 82])
 (.seq (.ops [mT 86 5,mT 4 86])
 .ret)))))}
def bCz :aM:={np:=2,res:=[.tmp 4],keep:=false,body:=
 (.seq (.ops [mC 4 (.bool false)])
 (.seq (.seq (.ops [mC 5 (.int .i64 0)])
 (.block 0 (.loop (.seq (.seq (.ops [mT 6 5,mT 7 0,lN 8 7,bN 9 .lss (.t 6) (.t 8),mT 10 9,gM 11 10 true 5,gM 12 10 true 1,gB 13 10 true .leq (.t 11) (.t 12),
 pA 14 10 13])
 (.cond (.t 14)
 .skip
 (.exit 0)))
 (.seq (.block 1 (.seq (.ops [mT 17 0,mT 18 5,iA 19 1 17 18,l1 20 19,cL 21 84 [(.t 20),(cI (-1000000000)),(cI 1000000000)],nT 22 21])
 (.cond (.t 22)
 (.seq (.ops [mC 4 (.bool false)])
 .ret)
 .skip)))
 (.ops [mT 15 5,bN 16 .add (.t 15) (cI 1),mT 5 16]))))))
 (.seq (.ops [mT 23 0,lN 24 23,mT 25 1,bN 26 .leq (.t 24) (.t 25),mT 4 26])
 .ret)))}
def bC0 :aM:={np:=3,res:=[.tmp 6],keep:=false,body:=
 (.seq (.ops [mC 6 (.bool false)])
 (.seq (.ops [mT 7 0,mT 8 1,bN 9 .geq (.t 7) (.t 8),mT 10 9,gM 11 10 true 0,gM 12 10 true 2,gB 13 10 true .leq (.t 11) (.t 12),pA 14 10 13,mT 6 14])
 .ret))}
def bC1 :aM:={np:=1,res:=[.tmp 2],keep:=false,body:=
 (.seq (.ops [bX 1 5 0,mC 2 (.bool false)])
 (.seq (.ops [mC 3 (.int .i64 0)])
 (.seq (.seq (.ops [mC 4 (.int .i64 0)])
 (.block 0 (.loop (.seq (.seq (.ops [mT 7 4,fA 8 0 1,l1 9 8,lN 10 9,bN 11 .lss (.t 7) (.t 10)])
 (.cond (.t 11)
 .skip
 (.exit 0)))
 (.seq (.block 1 (.seq (.ops [fA 14 0 1,l1 15 14,mT 16 4,iA 17 4 15 16,fA 18 0 17,l1 19 18,bN 20 .eql (.t 19) (cI 6)])
 (.cond (.t 20)
 (.ops [mT 21 3,bN 22 .add (.t 21) (cI 1),mT 3 22])
 .skip)))
 (.ops [mT 12 4,bN 13 .add (.t 12) (cI 1),mT 4 13]))))))
 (.seq (.seq (.ops [fA 23 1 1,l1 24 23,lN 25 24,mT 26 3,bN 27 .neq (.t 25) (.t 26)])
 (.cond (.t 27)
 (.seq (.ops [mC 2 (.bool false)])
 .ret)
 .skip))
 (.seq (.seq (.ops [mC 5 (.int .i64 0)])
 (.block 2 (.loop (.seq (.seq (.ops [mT 28 5,mT 29 3,bN 30 .lss (.t 28) (.t 29)])
 (.cond (.t 30)
 .skip
 (.exit 2)))
 (.seq (.block 3 (.seq (.ops [fA 33 1 1,l1 34 33,mT 35 5,iA 36 1 34 35,l1 37 36,mT 6 37])
 (.seq (.ops [mT 38 6,fA 39 0 1,l1 40 39,lN 41 40,bN 42 .sub (.t 41) (cI 1),cL 43 84 [(.t 38),(cI 0),(.t 42)],nT 44 43,mT 45 44,gF 46 45 false 0 1,
 g1 47 45 false 46,gM 48 45 false 6,og 49 45 false (.ia 4 (.t 47) (.t 48)),gF 50 45 false 0 49,g1 51 45 false 50,gB 52 45 false .neq (.t 51) (cI 6),pO 53 45 52,
 mT 54 53,gF 55 54 false 1 1,g1 56 54 false 55,gM 57 54 false 5,og 58 54 false (.slice false 1 (.t 56) none (some (.t 57)) none),gM 59 54 false 6,
 gL 60 54 false 120 [(.t 58),(.t 59)],pO 61 54 60])
 (.cond (.t 61)
 (.seq (.ops [mC 2 (.bool false)])
 .ret)
 .skip))))
 (.ops [mT 31 5,bN 32 .add (.t 31) (cI 1),mT 5 32]))))))
 (.seq (.ops [mC 2 (.bool true)])
 .ret))))))}
def bC2 :aM:={np:=3,res:=[.tmp 6],keep:=false,body:=
 (.seq (.ops [bX 3 4 0,bX 4 5 1,bX 5 4 2,mC 6 (.bool false)])
 (.seq (.seq (.ops [fA 7 0 5,l1 8 7,bN 9 .eql (.t 8) (cI 6)])
 (.cond (.t 9)
 (.seq (.ops [lT 10 4 3,lT 11 5 4,lT 12 4 5,cL 13 121 [(.t 10),(.t 11),(.t 12)],mT 6 13])
 .ret)
 .skip))
 (.seq (.seq (.ops [fA 14 0 5,l1 15 14,bN 16 .eql (.t 15) (cI 5)])
 (.cond (.t 16)
 (.seq (.draw [fA 17 1 5,l1 18 17,bN 19 .eql (.t 18) (cI 0),mT 20 19,gF 21 20 true 2 5,g1 22 20 true 21,gN 23 20 true 22,gB 24 20 true .eql (.t 23) (cI 0),pA 25 20 24,
 mT 26 25,gF 27 26 true 3 5,g1 28 26 true 27,gN 29 26 true 28,gB 30 26 true .gtr (.t 29) (cI 0),pA 31 26 30,mT 32 31,gT 33 32 true 4 3,gT 34 32 true 5 4,
 gF 35 32 true 3 5,g1 36 32 true 35,gL 37 32 true 122 [(.t 33),(.t 34),(.t 36)],pA 38 32 37,mT 39 38,gT 40 39 true 4 3,gF 41 39 true 3 5,g1 42 39 true 41,
 gF 43 39 true 3 5,g1 44 39 true 43,gN 45 39 true 44,gL 46 39 true 123 [(.t 40),(.t 42),(.t 45)],pA 47 39 46,mT 48 47,gF 49 48 true 0 3,g1 50 48 true 49,
 gF 51 48 true 3 5,g1 52 48 true 51,og 53 48 true (.ia 3 (.t 52) (cI 0)),gF 54 48 true 0 53,g1 55 48 true 54,og 56 48 true (.ia 4 (.t 50) (.t 55)),gF 57 48 true 0 56,
 g1 58 48 true 57,gB 59 48 true .eql (.t 58) (cI 26),pA 60 48 59,mT 6 60]
 [])
 .ret)
 .skip))
 (.seq (.seq (.ops [fA 61 3 5,l1 62 61,lN 63 62,bN 64 .neq (.t 63) (cI 0)])
 (.cond (.t 64)
 (.seq (.ops [mC 6 (.bool false)])
 .ret)
 .skip))
 (.seq (.seq (.ops [fA 65 0 5,l1 66 65])
 (.block 0 (.seq (.ops [bN 68 .eql (.t 66) (cI 1),mT 67 68])
 (.cond (.t 67)
 (.seq (.draw [fA 69 1 5,l1 70 69,fA 71 3 3,l1 72 71,lN 73 72,bN 74 .sub (.t 73) (cI 1),cL 75 84 [(.t 70),(cI 0),(.t 74)],mT 76 75,gF 77 76 true 2 5,
 g1 78 76 true 77,gN 79 76 true 78,gF 80 76 true 3 3,g1 81 76 true 80,gF 82 76 true 1 5,g1 83 76 true 82,og 84 76 true (.ia 2 (.t 81) (.t 83)),gF 85 76 true 1 84,
 g1 86 76 true 85,gB 87 76 true .eql (.t 79) (.t 86),pA 88 76 87,mT 89 88,gT 90 89 true 4 3,gT 91 89 true 5 4,gF 92 89 true 2 5,g1 93 89 true 92,
 gL 94 89 true 124 [(.t 90),(.t 91),(.t 93),(cI 3)],pA 95 89 94,mT 6 95]
 [])
 .ret)
 (.seq (.ops [bN 97 .eql (.t 66) (cI 2),mT 96 97])
 (.cond (.t 96)
 (.seq (.ops [fA 98 1 5,l1 99 98,fA 100 0 3,l1 101 100,lN 102 101,bN 103 .sub (.t 102) (cI 1),cL 104 84 [(.t 99),(cI 0),(.t 103)],mT 105 104,gF 106 105 true 0 3,
 g1 107 105 true 106,gF 108 105 true 1 5,g1 109 105 true 108,og 110 105 true (.ia 4 (.t 107) (.t 109)),gF 111 105 true 0 110,g1 112 105 true 111,
 gB 113 105 true .eql (.t 112) (cI 5),pA 114 105 113,mT 115 114,gT 116 115 true 4 3,gT 117 115 true 5 4,gF 118 115 true 2 5,g1 119 115 true 118,
 gL 120 115 true 124 [(.t 116),(.t 117),(.t 119),(cI 30)],pA 121 115 120,mT 6 121])
 .ret)
 (.seq (.ops [bN 123 .eql (.t 66) (cI 3),mT 122 123])
 (.cond (.t 122)
 (.seq (.ops [fA 124 1 5,l1 125 124,bN 126 .eql (.t 125) (cI 0),mT 127 126,gF 128 127 true 2 5,g1 129 127 true 128,gN 130 127 true 129,
 gB 131 127 true .eql (.t 130) (cI 1),pA 132 127 131,mT 133 132,gT 134 133 true 4 3,gT 135 133 true 5 4,gF 136 133 true 2 5,g1 137 133 true 136,
 gL 138 133 true 124 [(.t 134),(.t 135),(.t 137),(cI 1)],pA 139 133 138,mT 6 139])
 .ret)
 (.seq (.ops [bN 141 .eql (.t 66) (cI 4),mT 140 141])
 (.cond (.t 140)
 (.seq (.ops [fA 142 1 5,l1 143 142,bN 144 .eql (.t 143) (cI 0),mT 145 144,gT 146 145 true 4 3,gT 147 145 true 5 4,gF 148 145 true 2 5,g1 149 145 true 148,
 gL 150 145 true 124 [(.t 146),(.t 147),(.t 149),(cI 4)],pA 151 145 150,mT 6 151])
 .ret)
 .skip))))))))))
 (.seq (.ops [mC 6 (.bool false)])
 .ret))))))}
def bC3 :aM:={np:=1,res:=[.tmp 2],keep:=false,body:=
 (.seq (.ops [bX 1 4 0,mC 2 (.bool false)])
 (.seq (.ops [lT 3 4 1,cL 4 125 [(.t 3),(cI 16)],bN 5 .geq (.t 4) (cI 0),mT 6 5,gT 7 6 true 4 1,gL 8 6 true 126 [(.t 7)],pA 9 6 8,mT 2 9])
 .ret))}
def bC4 :aM:={np:=1,res:=[.tmp 2],keep:=false,body:=
 (.seq (.ops [mC 2 (.bool false)])
 (.seq (.ops [mT 3 0,bN 4 .geq (.t 3) (cI 1),mT 5 4,gM 6 5 true 0,gB 7 5 true .leq (.t 6) (cI 200),pA 8 5 7,mT 2 8])
 .ret))}
def bC5 :aM:={np:=2,res:=[.tmp 4,.tmp 5],keep:=false,body:=
 (.seq (.ops [bX 2 1 0,mC 4 (.cl []),mC 5 (.bool false)])
 (.seq (.ops [mC 6 (.int .i64 0),mC 7 (.int .i64 0)])
 (.seq .skip
 (.seq (.block 0 (.loop (.seq (.seq (.ops [mT 15 6,l1 16 2,nK 17 16,fA 18 0 17,fA 19 6 18,l1 20 19,lN 21 20,bN 22 .lss (.t 15) (.t 21)])
 (.cond (.t 22)
 .skip
 (.exit 0)))
 (.block 1 (.seq (.seq (.ops [l1 23 2,nK 24 23,fA 25 0 24,fA 26 6 25,l1 27 26,mT 28 6,iA 29 1 27 28,l1 30 29,bN 31 .neq (.t 30) (cI 1)])
 (.cond (.t 31)
 (.seq (.ops [mT 32 6,bN 33 .add (.t 32) (cI 1),mT 6 33])
 (.exit 1))
 .skip))
 (.seq (.seq (.ops [mT 34 7,mT 35 1,bN 36 .eql (.t 34) (.t 35)])
 (.cond (.t 36)
 (.exit 0)
 .skip))
 (.seq (.ops [mT 37 7,bN 38 .add (.t 37) (cI 1),mT 7 38])
 (.seq (.ops [l1 39 2,nK 40 39,fA 41 0 40,fA 42 6 41,l1 43 42,mT 44 6,iA 45 1 43 44,on (.store 1 (.t 45) (cI 2))])
 (.seq (.ops [mT 46 6,bN 47 .add (.t 46) (cI 1),o 8 (.alloc [(.int .i64 0)]),sT 1 8 47])
 (.seq (.seq (.ops [l1 48 2,nK 49 48,fA 50 0 49,fA 51 0 50,fA 52 0 51,l1 53 52,mT 54 6,iA 55 4 53 54,lT 56 4 55,cL 57 63 [(.t 56)]])
 (.block 2 (.rangeF (.t 57) [58]
 (.ops [mT 9 58])
 (.block 3 (.seq (.ops [l1 59 2,nK 60 59,fA 61 0 60,fA 62 6 61,l1 63 62,mT 64 9,iA 65 1 63 64,l1 66 65,bN 67 .eql (.t 66) (cI 0)])
 (.cond (.t 67)
 (.seq (.ops [l1 68 2,nK 69 68,fA 70 0 69,fA 71 6 70,l1 72 71,mT 73 9,iA 74 1 72 73,on (.store 1 (.t 74) (cI 1))])
 (.ops [l1 75 8,mT 76 9,o 77 (.minmax false [(.t 75),(.t 76)]),sT 1 8 77]))
 .skip))))))
 (.ops [l1 78 8,mT 6 78])))))))))))
 (.seq (.seq (.ops [mT 79 6,l1 80 2,nK 81 80,fA 82 0 81,fA 83 6 82,l1 84 83,lN 85 84,bN 86 .lss (.t 79) (.t 85)])
 (.cond (.t 86)
 (.seq (.ops [mC 4 (.cl []),mC 5 (.bool false)])
 .ret)
 .skip))
 (.seq (.ops [mC 10 (.cl []),mC 11 (.cl []),mC 12 (.cl [])])
 (.seq (.seq (.ops [l1 87 2,nK 88 87,fA 89 0 88,fA 90 6 89,l1 91 90,lN 92 91,mC 93 (.int .i64 0)])
 (.block 4 (.loop (.seq (.ops [bN 94 .lss (.t 93) (.t 92)])
 (.seq (.cond (.t 94)
 .skip
 (.exit 4))
 (.seq (.block 5 (.seq (.ops [mT 95 93,iA 96 1 91 93,l1 97 96,mT 13 95,mT 14 97])
 (.seq (.seq (.ops [mT 98 14,bN 99 .eql (.t 98) (cI 0)])
 (.cond (.t 99)
 (.seq (.ops [mT 100 10,mT 101 13,o 102 (.bslice 1 1 [(.int .i64 0)] [(0,(.t 101))]),o 103 (.append 1 (.t 100) (.t 102)),mT 10 103])
 (.exit 5))
 .skip))
 (.draw [mT 104 11,mT 105 13,o 106 (.bslice 1 1 [(.int .i64 0)] [(0,(.t 105))]),o 107 (.append 1 (.t 104) (.t 106)),mT 108 12,l1 109 2,nK 110 109,fA 111 0 110,
 fA 112 5 111,l1 113 112,mT 114 13,iA 115 1 113 114,l1 116 115,bN 117 .add (.t 116) (cI 1),o 118 (.minmax false [(.t 117),(cI 2)]),
 o 119 (.bslice 1 1 [(.int .i64 0)] [(0,(.t 118))]),o 120 (.append 1 (.t 108) (.t 119)),mT 11 107,mT 12 120]
 [(2,5),(3,5),(2,9),(3,9),(2,11),(3,11),(2,12),(3,12),(2,15),(3,15)]))))
 (.ops [bN 121 .add (.t 93) (cI 1),mT 93 121])))))))
 (.seq (.draw [l1 122 2,l1 123 2,l1 124 2,nK 125 124,fA 126 0 125,fA 127 0 126,lT 128 5 127,mT 129 11,cL 130 65 [(.t 128),(.t 129)],mT 131 12,nK 132 122,
 fA 133 0 132,fA 134 0 133,sT 5 134 130,nK 135 123,fA 136 0 135,fA 137 5 136,sT 1 137 131]
 [(0,8),(1,8),(1,13)])
 (.seq (.draw [l1 138 2,l1 139 2,nK 140 139,fA 141 0 140,fA 142 7 141,l1 143 142,bN 144 .add (.t 143) (cI 1),bN 145 .rem (.t 144) (cI 4),nK 146 138,fA 147 0 146,
 fA 148 7 147,sT 1 148 145]
 [])
 (.seq (.ops [l1 149 2,o 150 (.icall (.f 76) [(.t 149)])])
 (.seq (.ops [mT 151 10,mT 4 151,mC 5 (.bool true)])
 .ret)))))))))))}
def bC6 :aM:={np:=3,res:=[.cell 6 true 5,.tmp 7,.tmp 8],keep:=false,body:=
 (.seq (.ops [bX 3 4 0,bX 4 5 1,o 6 (.alloc [(.cl []),(.cl []),(.cl []),(.cl []),(.int .i64 0)]),mC 7 (.int .i64 0),mC 8 (.bool false)])
 (.seq (.seq (.ops [mC 9 (.int .i64 0)])
 (.block 0 (.loop (.seq (.seq (.ops [mT 11 9,fA 12 1 4,l1 13 12,lN 14 13,bN 15 .lss (.t 11) (.t 14)])
 (.cond (.t 15)
 .skip
 (.exit 0)))
 (.seq (.block 1 (.seq (.ops [lT 18 4 3,lT 19 5 4,mT 20 9,cL 21 93 [(.t 18),(.t 19),(.t 20)],
 o 10 (.alloc [(.cl []),(.cl []),(.cl []),(.cl []),(.int .i64 0),(.int .i64 0),(.int .i64 0),(.int .i64 0),(.int .i64 0),(.int .i64 0),(.int .i64 0)]),sT 11 10 21])
 (.block 2 (.loop (.seq (.seq (.ops [fA 22 5 10,l1 23 22,bN 24 .eql (.t 23) (cI 0)])
 (.cond (.t 24)
 .skip
 (.exit 2)))
 (.block 3 (.seq (.ops [mT 25 2,bN 26 .add (.t 25) (cI 1),mT 2 26])
 (.seq (.seq (.ops [mT 27 2,bN 28 .gtr (.t 27) (cI 5000)])
 (.cond (.t 28)
 (.seq (.ops [lT 29 5 4,mT 30 2,sT 5 6 29,mT 7 30,mC 8 (.bool false)])
 .ret)
 .skip))
 (.seq (.ops [fA 31 0 10,lT 32 5 31,sT 5 4 32])
 (.ops [lT 33 4 3,lT 34 5 4,mT 35 9,cL 36 93 [(.t 33),(.t 34),(.t 35)],sT 11 10 36]))))))))))
 (.ops [mT 16 9,bN 17 .add (.t 16) (cI 1),mT 9 17]))))))
 (.seq (.ops [lT 37 5 4,mT 38 2,sT 5 6 37,mT 7 38,mC 8 (.bool true)])
 .ret)))}
def bC7 :aM:={np:=2,res:=[.tmp 4],keep:=false,body:=
 (.seq (.ops [bX 2 4 0,bX 3 5 1,mC 4 (.cl [])])
 (.seq (.ops [mC 5 (.cl [])])
 (.seq (.seq (.ops [mC 6 (.int .i64 0)])
 (.block 0 (.loop (.seq (.seq (.ops [mT 7 6,fA 8 1 3,l1 9 8,lN 10 9,bN 11 .lss (.t 7) (.t 10)])
 (.cond (.t 11)
 .skip
 (.exit 0)))
 (.seq (.block 1 (.seq (.ops [lT 14 4 2,lT 15 5 3,mT 16 6,cL 17 93 [(.t 14),(.t 15),(.t 16)],o 18 (.fld false 5 1 (.t 17)),bN 19 .neq (.t 18) (cI 2)])
 (.cond (.t 19)
 (.ops [mT 20 5,mT 21 6,o 22 (.bslice 1 1 [(.int .i64 0)] [(0,(.t 21))]),o 23 (.append 1 (.t 20) (.t 22)),mT 5 23])
 .skip)))
 (.ops [mT 12 6,bN 13 .add (.t 12) (cI 1),mT 6 13]))))))
 (.seq (.ops [mT 24 5,mT 4 24])
 .ret))))}
def aMz :aM:={np:=3,res:=[.cell 6 true 11],keep:=false,body:=
 (.seq (.ops [bX 3 4 0,bX 4 5 1,
 o 6 (.alloc [(.cl []),(.cl []),(.cl []),(.cl []),(.int .i64 0),(.int .i64 0),(.int .i64 0),(.int .i64 0),(.int .i64 0),(.int .i64 0),(.int .i64 0)])])
 (.seq (.draw [fA 14 0 4,l1 15 14,fA 16 1 4,l1 17 16,mT 18 2,iA 19 1 17 18,l1 20 19,iA 21 4 15 20,lT 22 4 21,
 o 7 (.alloc [(.int .i64 0),(.int .i64 0),(.cl []),(.cl [])]),sT 4 7 22]
 [(1,9),(3,9),(5,9),(6,9),(7,9),(8,9)])
 (.seq (.seq (.ops [fA 23 1 7,l1 24 23,bN 25 .neq (.t 24) (cI 0)])
 (.cond (.t 25)
 (.seq (.ops [lT 26 5 4,
 o 27 (.build [(.cl []),(.cl []),(.cl []),(.cl []),(.int .i64 0),(.int .i64 0),(.int .i64 0),(.int .i64 0),(.int .i64 0),(.int .i64 0),(.int .i64 0)] [(0,5,(.t 26)),(5,1,(cI 2))]),
 sT 11 6 27])
 .ret)
 .skip))
 (.seq (.ops [fA 28 3 7,l1 29 28,lN 30 29,bN 31 .sub (.t 30) (cI 1),mT 8 31])
 (.seq (.seq (.ops [fA 32 2 7,l1 33 32,lN 34 33,bN 35 .eql (.t 34) (cI 1)])
 (.cond (.t 35)
 (.seq (.ops [fA 36 2 7,l1 37 36,o 38 (.ia 2 (.t 37) (cI 0)),lT 39 2 38,o 9 (.alloc [(.int .i64 0),(.int .i64 0)]),sT 2 9 39])
 (.seq (.seq (.ops [mT 40 8,bN 41 .lss (.t 40) (cI 0)])
 (.cond (.t 41)
 (.seq (.draw [lT 42 5 4,fA 43 1 4,l1 44 43,mT 45 2,iA 46 1 44 45,l1 47 46,lT 48 2 9,o 49 (.bslice 1 2 [(.int .i64 0),(.int .i64 0)] [(0,(.t 48))]),
 o 50 (.build [(.int .i64 0),(.int .i64 0),(.cl []),(.cl [])] [(0,1,(cI 6)),(1,1,(cI 1)),(2,1,(.t 49))]),cL 51 127 [(.t 42),(.t 47),(.t 50)],mT 52 2,lT 53 2 9,
 cL 54 128 [(.t 53)],o 55 (.build [(.int .i64 0),(.int .i64 0),(.int .i64 0),(.int .i64 0),(.int .i64 0)] [(0,1,(.t 52)),(2,1,(cI 1)),(3,2,(.t 54))]),
 o 56 (.build [(.cl []),(.cl []),(.cl []),(.cl []),(.int .i64 0),(.int .i64 0),(.int .i64 0),(.int .i64 0),(.int .i64 0),(.int .i64 0),(.int .i64 0)] [(0,5,(.t 51)),(5,1,(cI 1)),(6,5,(.t 55))]),
 sT 11 6 56]
 [(0,7),(2,7),(4,7),(5,7),(7,11),(9,11)])
 .ret)
 .skip))
 (.seq (.ops [fA 57 3 7,l1 58 57,o 59 (.append 3 (.c (.cl [])) (.t 58)),mT 10 59])
 (.seq (.draw [mT 60 10,mT 61 8,mT 62 10,mT 63 8,iA 64 3 62 63,fA 65 2 64,l1 66 65,lT 67 2 9,cL 68 129 [(.t 66),(.t 67)],iA 69 3 60 61,fA 70 2 69,sT 1 70 68]
 [])
 (.seq (.draw [lT 71 5 4,fA 72 1 4,l1 73 72,mT 74 2,iA 75 1 73 74,l1 76 75,mT 77 10,
 o 78 (.build [(.int .i64 0),(.int .i64 0),(.cl []),(.cl [])] [(0,1,(cI 6)),(3,1,(.t 77))]),cL 79 127 [(.t 71),(.t 76),(.t 78)],
 o 80 (.build [(.cl []),(.cl []),(.cl []),(.cl []),(.int .i64 0),(.int .i64 0),(.int .i64 0),(.int .i64 0),(.int .i64 0),(.int .i64 0),(.int .i64 0)] [(0,5,(.t 79))]),
 sT 11 6 80]
 [])
 .ret)))))
 .skip))
 (.seq (.ops [fA 81 3 7,l1 82 81,mT 83 8,iA 84 3 82 83,lT 85 3 84,o 11 (.alloc [(.int .i64 0),(.cl []),(.cl [])]),sT 3 11 85])
 (.seq (.ops [fA 86 0 3,l1 87 86,fA 88 0 11,l1 89 88,iA 90 4 87 89,lT 91 4 90,o 12 (.alloc [(.int .i64 0),(.int .i64 0),(.cl []),(.cl [])]),sT 4 12 91])
 (.seq (.seq (.ops [fA 92 2 11,l1 93 92,lN 94 93,mT 13 94])
 (.seq (.ops [mT 95 13,lT 96 4 12,cL 97 130 [(.t 96)],bN 98 .lss (.t 95) (.t 97)])
 (.cond (.t 98)
 (.seq (.draw [lT 99 5 4,mT 100 2,fA 101 3 7,l1 102 101,fA 103 2 12,l1 104 103,mT 105 13,iA 106 1 104 105,l1 107 106,fA 108 1 11,l1 109 108,
 cL 110 131 [(.t 99),(.t 100),(.t 102),(.t 107),(.t 109)],sT 11 6 110]
 [])
 .ret)
 .skip)))
 (.seq (.draw [lT 111 4 3,lT 112 5 4,mT 113 2,fA 114 3 7,l1 115 114,mT 116 8,o 117 (.slice false 3 (.t 115) none (some (.t 116)) none),
 o 118 (.append 3 (.c (.cl [])) (.t 117)),lT 119 3 11,cL 120 132 [(.t 111),(.t 112),(.t 113),(.t 118),(.t 119)],sT 11 6 120]
 [(0,7),(1,7),(7,8)])
 .ret)))))))))}
def aZk :aM:={np:=2,res:=[.tmp 4],keep:=false,body:=
 (.seq (.ops [mC 4 (.int .i64 0)])
 (.seq (.ops [mT 5 0,mT 6 1,bN 7 .rem (.t 5) (.t 6),mT 0 7])
 (.seq (.seq (.ops [mT 8 0,bN 9 .lss (.t 8) (cI 0)])
 (.cond (.t 9)
 (.ops [mT 10 0,mT 11 1,bN 12 .add (.t 10) (.t 11),mT 0 12])
 .skip))
 (.seq (.ops [mT 13 0,mT 4 13])
 .ret))))}
def bC8 :aM:={np:=2,res:=[.tmp 4],keep:=false,body:=
 (.seq (.ops [mC 4 (.bool false)])
 (.seq (.ops [mT 5 0,mT 6 1,cL 7 137 [(.t 5),(.t 6)],bN 8 .geq (.t 7) (cI 0),mT 4 8])
 .ret))}
def aRn :aM:={np:=1,res:=[.tmp 2],keep:=false,body:=
 (.seq (.ops [mC 2 (.bool false)])
 (.seq (.ops [mT 3 0,lN 4 3,bN 5 .leq (.t 4) (cI 40),mT 2 5])
 .ret))}
def aZl :aM:={np:=1,res:=[.cell 2 true 4],keep:=false,body:=
 (.seq (.ops [bX 1 2 0,o 2 (.alloc [(.int .i64 0),(.int .i64 0),(.cl []),(.cl [])])])
 (.seq (.ops [lT 3 2 1,o 4 (.bslice 1 2 [(.int .i64 0),(.int .i64 0)] [(0,(.t 3))]),
 o 5 (.build [(.int .i64 0),(.int .i64 0),(.cl []),(.cl [])] [(0,1,(cI 6)),(1,1,(cI 1)),(2,1,(.t 4))]),sT 4 2 5])
 .ret))}
def aRo :aM:={np:=1,res:=[.cell 2 true 2],keep:=false,body:=
 (.seq (.ops [o 2 (.alloc [(.int .i64 0),(.int .i64 0)])])
 (.seq (.ops [mT 3 0,o 4 (.build [(.int .i64 0),(.int .i64 0)] [(0,1,(cI 5)),(1,1,(.t 3))]),sT 2 2 4])
 .ret))}
def aZm :aM:={np:=1,res:=[.cell 2 true 4],keep:=false,body:=
 (.seq (.ops [bX 1 2 0,o 2 (.alloc [(.int .i64 0),(.int .i64 0),(.cl []),(.cl [])])])
 (.seq (.ops [lT 3 2 1,o 4 (.bslice 1 2 [(.int .i64 0),(.int .i64 0)] [(0,(.t 3))]),
 o 5 (.build [(.int .i64 0),(.int .i64 0),(.cl []),(.cl [])] [(0,1,(cI 3)),(2,1,(.t 4))]),sT 4 2 5])
 .ret))}
def aRp :aM:={np:=1,res:=[.cell 2 true 2],keep:=false,body:=
 (.seq (.ops [o 2 (.alloc [(.int .i64 0),(.int .i64 0)])])
 (.seq (.ops [mT 3 0,o 4 (.build [(.int .i64 0),(.int .i64 0)] [(0,1,(cI 1)),(1,1,(.t 3))]),sT 2 2 4])
 .ret))}
def aM0 :aM:={np:=2,res:=[.tmp 4,.tmp 5],keep:=false,body:=
 (.seq (.ops [bX 2 4 0,bX 3 5 1,mC 4 .nilp,mC 5 (.bool false)])
 (.seq (.seq (.ops [lT 7 4 2,cL 8 141 [(.t 7)],bN 9 .neq (.t 8) (cI 0)])
 (.cond (.t 9)
 (.seq (.ops [mC 4 .nilp,mC 5 (.bool false)])
 .ret)
 .skip))
 (.seq (.ops [lT 10 4 2,lT 11 5 3,
 o 12 (.build [(.cl []),(.cl []),(.int .i64 0),(.cl []),(.cl []),(.cl []),(.cl []),(.cl []),(.int .i64 0)] [(0,4,(.t 10)),(4,5,(.t 11))]),bX 13 9 12,mT 6 13])
 (.seq (.ops [mT 14 6,mT 15 6,cL 16 142 [(.t 15)],mT 4 14,mT 5 16])
 .ret))))}
def aRq :aM:={np:=2,res:=[],keep:=false,body:=
 (.seq (.ops [bX 2 1 0])
 (.seq (.ops [o 3 (.alloc [.nilf])])
 (.seq (.ops [o 6 (.mkfn 108 [] [(.t 2),(.t 3)]),sT 1 3 6])
 (.seq (.seq (.ops [l1 7 3,fA 8 2 1,l1 9 8,o 10 (.bslice 1 1 [(.cl [])] [(0,(.t 9))]),o 11 (.icall (.t 7) [(.t 10)]),nT 12 11])
 (.cond (.t 12)
 .ret
 .skip))
 (.seq (.ops [fA 13 3 1,l1 14 13,lN 15 14,mC 16 (.int .i64 0)])
 (.block 0 (.loop (.seq (.ops [bN 17 .lss (.t 16) (.t 15)])
 (.seq (.cond (.t 17)
 .skip
 (.exit 0))
 (.seq (.block 1 (.seq (.ops [iA 18 3 14 16,lT 19 3 18,o 5 (.alloc [(.int .i64 0),(.cl []),(.cl [])]),sT 3 5 19])
 (.seq (.ops [l1 20 3,fA 21 1 5,l1 22 21,fA 23 2 5,l1 24 23,o 25 (.bslice 2 1 [(.cl [])] [(0,(.t 22)),(1,(.t 24))]),o 26 (.icall (.t 20) [(.t 25)]),nT 27 26])
 (.cond (.t 27)
 .ret
 .skip))))
 (.ops [bN 28 .add (.t 16) (cI 1),mT 16 28])))))))))))}
def aM1 :aM:={np:=3,res:=[.tmp 4],keep:=false,body:=
 (.seq (.ops [mC 4 (.bool false)])
 (.seq (.seq (.ops [mT 7 0,lN 8 7,bN 9 .eql (.t 8) (cI 0)])
 (.cond (.t 9)
 (.seq (.ops [mC 4 (.bool true)])
 .ret)
 .skip))
 (.seq (.seq (.ops [mT 10 0,o 11 (.ia 1 (.t 10) (cI 0)),l1 12 11,lN 13 12,mC 14 (.int .i64 0)])
 (.block 0 (.loop (.seq (.ops [bN 15 .lss (.t 14) (.t 13)])
 (.seq (.cond (.t 15)
 .skip
 (.exit 0))
 (.seq (.block 1 (.seq (.ops [iA 16 2 12 14,lT 17 2 16,o 6 (.alloc [(.int .i64 0),(.int .i64 0)]),sT 2 6 17])
 (.seq (.ops [fA 18 0 6,l1 19 18,bN 20 .eql (.t 19) (cI 5),mT 21 20,g1 22 21 true 1,gF 23 21 true 1 6,g1 24 21 true 23,og 25 21 true (.icall (.t 22) [(.t 24)]),
 og 26 21 true (.un .not (.t 25)),pA 27 21 26])
 (.cond (.t 27)
 (.seq (.ops [mC 4 (.bool false)])
 .ret)
 .skip))))
 (.ops [bN 28 .add (.t 14) (cI 1),mT 14 28])))))))
 (.seq (.draw [l1 29 2,mT 30 0,o 31 (.slice false 1 (.t 30) (some (cI 1)) none none),o 32 (.icall (.t 29) [(.t 31)]),mT 4 32]
 [])
 .ret))))}
def aIy :aM:={np:=1,res:=[.tmp 2],keep:=true,amb:=true,body:=
 (.seq (.ops [mC 2 (.cl [])])
 (.seq (.seq (.ops [mT 3 0,o 4 (.bin .eql .slice (.t 3) (.c (.es true)))])
 (.cond (.t 4)
 (.seq (.ops [mC 2 (.cl [])])
 .ret)
 .skip))
 (.seq (.ops [o 5 (.bslice 0 2 [(.int .i64 0),(.int .i64 0)] []),mT 6 0,o 7 (.append 2 (.t 5) (.t 6)),mT 2 7])
 .ret)))}
def aM2 :aM:={np:=2,res:=[.cell 4 true 4],keep:=false,body:=
 (.seq (.ops [bX 2 4 0,bX 3 1 1,o 4 (.alloc [(.int .i64 0),(.int .i64 0),(.cl []),(.cl [])])])
 (.seq (.ops [o 9 (.mkfn 143 [] [(.t 3)]),mT 5 9])
 (.seq (.draw [fA 10 0 2,l1 11 10,fA 12 1 2,l1 13 12,mT 14 5,fA 15 2 2,l1 16 15,o 17 (.call (.t 14) [(.t 16)]),
 o 18 (.build [(.int .i64 0),(.int .i64 0),(.cl []),(.cl [])] [(0,1,(.t 11)),(1,1,(.t 13)),(2,1,(.t 17))]),o 6 (.alloc [(.int .i64 0),(.int .i64 0),(.cl []),(.cl [])]),
 sT 4 6 18]
 [(1,7),(3,7),(1,9),(3,9),(6,9),(7,9)])
 (.seq (.seq (.ops [fA 19 3 2,l1 20 19,lN 21 20,mC 22 (.int .i64 0)])
 (.block 0 (.loop (.seq (.ops [bN 23 .lss (.t 22) (.t 21)])
 (.seq (.cond (.t 23)
 .skip
 (.exit 0))
 (.seq (.block 1 (.seq (.ops [iA 24 3 20 22,lT 25 3 24,o 8 (.alloc [(.int .i64 0),(.cl []),(.cl [])]),sT 3 8 25])
 (.draw [fA 26 3 6,l1 27 26,fA 28 0 8,l1 29 28,mT 30 5,fA 31 1 8,l1 32 31,o 33 (.call (.t 30) [(.t 32)]),mT 34 5,fA 35 2 8,l1 36 35,o 37 (.call (.t 34) [(.t 36)]),
 o 38 (.build [(.int .i64 0),(.cl []),(.cl [])] [(0,1,(.t 29)),(1,1,(.t 33)),(2,1,(.t 37))]),o 39 (.bslice 1 3 [(.int .i64 0),(.cl []),(.cl [])] [(0,(.t 38))]),
 o 40 (.append 3 (.t 27) (.t 39)),fA 41 3 6,sT 1 41 40]
 [(1,7),(3,7),(7,10),(1,11),(3,11),(1,13)])))
 (.ops [bN 42 .add (.t 22) (cI 1),mT 22 42])))))))
 (.seq (.ops [lT 43 4 6,sT 4 4 43])
 .ret)))))}
def aRr :aM:={np:=3,res:=[.tmp 6],keep:=false,body:=
 (.seq (.ops [mC 6 (.bool false)])
 (.seq (.ops [mT 7 0,mT 8 1,bN 9 .geq (.t 7) (.t 8),mT 10 9,gM 11 10 true 0,gM 12 10 true 2,gB 13 10 true .leq (.t 11) (.t 12),pA 14 10 13,mT 6 14])
 .ret))}
def aRs :aM:={np:=1,res:=[.tmp 2],keep:=false,body:=
 (.seq (.ops [mC 2 (.bool false)])
 (.seq (.ops [mC 3 (.cl [])])
 (.seq (.seq (.ops [mC 4 (.int .i64 0)])
 (.block 0 (.loop (.seq (.seq (.ops [mT 5 4,mT 6 0,lN 7 6,bN 8 .lss (.t 5) (.t 7)])
 (.cond (.t 8)
 .skip
 (.exit 0)))
 (.seq (.block 1 (.seq (.seq (.ops [mT 11 0,mT 12 4,iA 13 2 11 12,fA 14 0 13,l1 15 14,cL 16 145 [(.t 15)],nT 17 16,mT 18 17,gM 19 18 false 0,gM 20 18 false 4,
 og 21 18 false (.ia 2 (.t 19) (.t 20)),gF 22 18 false 1 21,g1 23 18 false 22,gL 24 18 false 111 [(.t 23),(cI 0),(cI 3)],og 25 18 false (.un .not (.t 24)),
 pO 26 18 25])
 (.cond (.t 26)
 (.seq (.ops [mC 2 (.bool false)])
 .ret)
 .skip))
 (.ops [mT 27 3,mT 28 0,mT 29 4,iA 30 2 28 29,fA 31 0 30,l1 32 31,o 33 (.bslice 1 1 [(.str ⟨#[]⟩)] [(0,(.t 32))]),o 34 (.append 1 (.t 27) (.t 33)),mT 3 34])))
 (.ops [mT 9 4,bN 10 .add (.t 9) (cI 1),mT 4 10]))))))
 (.seq (.ops [mT 35 0,lN 36 35,bN 37 .leq (.t 36) (cI 20),mT 38 37,gM 39 38 true 3,gL 40 38 true 146 [(.t 39)],pA 41 38 40,mT 2 41])
 .ret))))}
def aRt :aM:={np:=2,res:=[.tmp 4],keep:=false,body:=
 (.seq (.ops [bX 2 4 0,bX 3 4 1,mC 4 (.bool false)])
 (.seq (.ops [mC 5 (.int .i64 0)])
 (.seq (.ops [fA 8 1 3,l1 9 8,bN 10 .eql (.t 9) (cI 0),mT 6 10])
 (.seq (.seq (.ops [fA 11 0 3,l1 12 11])
 (.block 0 (.seq (.ops [bN 14 .eql (.t 12) (cI 1),mT 13 14])
 (.cond (.t 13)
 (.ops [fA 15 1 3,l1 16 15,cL 17 111 [(.t 16),(cI (-1000000000)),(cI 1000000000)],mT 6 17])
 (.seq (.ops [bN 19 .eql (.t 12) (cI 2),mT 18 19])
 (.cond (.t 18)
 (.ops [fA 20 1 3,l1 21 20,cL 22 111 [(.t 21),(cI 0),(cI 1)],mT 6 22])
 (.seq (.ops [bN 24 .eql (.t 12) (cI 4),mT 23 24])
 (.cond (.t 23)
 (.ops [fA 25 1 3,l1 26 25,fA 27 1 2,l1 28 27,lN 29 28,o 30 (.un .neg (.t 29)),cL 31 111 [(.t 26),(.t 30),(cI 29)],mT 6 31])
 (.seq (.ops [bN 33 .eql (.t 12) (cI 24),mT 32 33])
 (.cond (.t 32)
 (.ops [fA 34 1 3,l1 35 34,cL 36 111 [(.t 35),(cI 0),(cI 3)],mT 6 36])
 (.seq (.ops [bN 38 .eql (.t 12) (cI 14),mT 37 38])
 (.cond (.t 37)
 (.seq (.ops [fA 39 1 3,l1 40 39,fA 41 3 2,l1 42 41,lN 43 42,bN 44 .sub (.t 43) (cI 1),cL 45 111 [(.t 40),(cI 0),(.t 44)],mT 6 45])
 (.seq (.ops [mT 46 6])
 (.cond (.t 46)
 (.ops [fA 47 3 2,l1 48 47,fA 49 1 3,l1 50 49,iA 51 2 48 50,fA 52 1 51,l1 53 52,mT 5 53])
 .skip)))
 .skip))))))))))))
 (.seq (.seq (.ops [fA 54 0 3,l1 55 54,bN 56 .eql (.t 55) (cI 15)])
 (.cond (.t 56)
 (.ops [mT 57 6,mT 58 57,gF 59 58 true 3 3,g1 60 58 true 59,gN 61 58 true 60,gL 62 58 true 111 [(.t 61),(cI 1),(cI 5)],pA 63 58 62,mT 6 63])
 (.ops [mT 64 6,mT 65 64,gF 66 65 true 3 3,g1 67 65 true 66,gN 68 65 true 67,gB 69 65 true .eql (.t 68) (cI 0),pA 70 65 69,mT 6 70])))
 (.seq (.seq (.ops [mC 7 (.int .i64 0)])
 (.block 1 (.loop (.seq (.seq (.ops [mT 71 7,fA 72 3 3,l1 73 72,lN 74 73,bN 75 .lss (.t 71) (.t 74),mT 76 75,gM 77 76 true 6,pA 78 76 77])
 (.cond (.t 78)
 .skip
 (.exit 1)))
 (.seq (.block 2 (.draw [fA 81 3 3,l1 82 81,mT 83 7,iA 84 4 82 83,lT 85 4 84,cL 86 125 [(.t 85),(cI 12)],bN 87 .geq (.t 86) (cI 0),mT 88 87,
 gF 89 88 true 3 3,g1 90 88 true 89,gM 91 88 true 7,og 92 88 true (.ia 4 (.t 90) (.t 91)),gT 93 88 true 4 92,gF 94 88 true 3 2,g1 95 88 true 94,
 gL 96 88 true 147 [(.t 93),(.t 95)],pA 97 88 96,mT 6 97]
 []))
 (.ops [mT 79 7,bN 80 .add (.t 79) (cI 1),mT 7 80]))))))
 (.seq (.draw [mT 98 6,mT 99 98,gF 100 99 true 2 3,g1 101 99 true 100,gN 102 99 true 101,gF 103 99 true 0 3,g1 104 99 true 103,gF 105 99 true 3 3,g1 106 99 true 105,
 gN 107 99 true 106,gM 108 99 true 5,gL 109 99 true 148 [(.t 104),(.t 107),(.t 108)],gB 110 99 true .eql (.t 102) (.t 109),pA 111 99 110,mT 4 111]
 [(3,11),(4,11)])
 .ret)))))))}
def aRu :aM:={np:=2,res:=[.tmp 4],keep:=false,body:=
 (.seq (.ops [mC 4 (.cl [])])
 (.seq (.seq (.ops [mC 5 (.int .i64 0)])
 (.block 0 (.loop (.seq (.seq (.ops [mT 6 5,mT 7 1,lN 8 7,bN 9 .lss (.t 6) (.t 8)])
 (.cond (.t 9)
 .skip
 (.exit 0)))
 (.seq (.block 1 (.seq (.ops [mT 12 1,mT 13 5,iA 14 2 12 13,fA 15 0 14,l1 16 15,bN 17 .eql (.t 16) (cI 5),mT 18 17,gM 19 18 true 0,gM 20 18 true 1,gM 21 18 true 5,
 og 22 18 true (.ia 2 (.t 20) (.t 21)),gF 23 18 true 1 22,g1 24 18 true 23,gL 25 18 true 70 [(.t 19),(.t 24)],og 26 18 true (.un .not (.t 25)),pA 27 18 26])
 (.cond (.t 27)
 (.ops [mT 28 0,mT 29 1,mT 30 5,iA 31 2 29 30,fA 32 1 31,l1 33 32,o 34 (.bslice 1 1 [(.int .i64 0)] [(0,(.t 33))]),o 35 (.append 1 (.t 28) (.t 34)),mT 0 35])
 .skip)))
 (.ops [mT 10 5,bN 11 .add (.t 10) (cI 1),mT 5 11]))))))
 (.seq (.ops [mT 36 0,mT 4 36])
 .ret)))}
def aZn :aM:={np:=2,res:=[.tmp 4],keep:=false,body:=
 (.seq (.ops [mC 4 (.bool false)])
 (.seq (.seq (.ops [mT 6 0,lN 7 6,mT 8 1,lN 9 8,bN 10 .neq (.t 7) (.t 9)])
 (.cond (.t 10)
 (.seq (.ops [mC 4 (.bool false)])
 .ret)
 .skip))
 (.seq (.seq (.ops [mC 5 (.int .i64 0)])
 (.block 0 (.loop (.seq (.seq (.ops [mT 11 5,mT 12 0,lN 13 12,bN 14 .lss (.t 11) (.t 13)])
 (.cond (.t 14)
 .skip
 (.exit 0)))
 (.seq (.block 1 (.seq (.draw [mT 17 0,mT 18 5,iA 19 2 17 18,lT 20 2 19,mT 21 1,mT 22 5,iA 23 2 21 22,lT 24 2 23,o 25 (.bin .neq (.agg [.num,.num]) (.t 20) (.t 24))]
 [])
 (.cond (.t 25)
 (.seq (.ops [mC 4 (.bool false)])
 .ret)
 .skip)))
 (.ops [mT 15 5,bN 16 .add (.t 15) (cI 1),mT 5 16]))))))
 (.seq (.ops [mC 4 (.bool true)])
 .ret))))}
def aRv :aM:={np:=1,res:=[.tmp 2],keep:=false,body:=
 (.seq (.ops [mC 2 (.bool false)])
 (.seq (.ops [mT 3 0,nK 4 3,fA 5 0 4,fA 6 7 5,l1 7 6,bN 8 .eql (.t 7) (cI 3),mT 2 8])
 .ret))}
def aRw :aM:={np:=2,res:=[.tmp 4],keep:=false,body:=
 (.seq (.ops [mC 4 (.bool false)])
 (.seq (.ops [mT 5 0,nK 6 5,fA 7 0 6,fA 8 5 7,l1 9 8,mT 10 1,iA 11 1 9 10,l1 12 11,bN 13 .eql (.t 12) (cI 2),mT 4 13])
 .ret))}
def aRx :aM:={np:=2,res:=[.tmp 4],keep:=false,body:=
 (.seq (.ops [mC 4 (.bool false)])
 (.seq (.ops [mT 5 0,mT 6 1,cL 7 149 [(.t 5),(.t 6)],mT 4 7])
 .ret))}
def aRy :aM:={np:=2,res:=[.tmp 4],keep:=false,body:=
 (.seq (.ops [bX 2 4 0,bX 3 4 1,mC 4 (.bool false)])
 (.seq (.ops [fA 5 0 2,l1 6 5,fA 7 0 3,l1 8 7,bN 9 .eql (.t 6) (.t 8),mT 10 9,gF 11 10 true 1 2,g1 12 10 true 11,gF 13 10 true 1 3,g1 14 10 true 13,
 gB 15 10 true .eql (.t 12) (.t 14),pA 16 10 15,mT 17 16,gF 18 17 true 2 2,g1 19 17 true 18,gF 20 17 true 2 3,g1 21 17 true 20,
 gL 22 17 true 150 [(.t 19),(.t 21)],pA 23 17 22,mT 24 23,gF 25 24 true 3 2,g1 26 24 true 25,gF 27 24 true 3 3,g1 28 24 true 27,
 gL 29 24 true 151 [(.t 26),(.t 28),(.f 152)],pA 30 24 29,mT 4 30])
 .ret))}
def aRz :aM:={np:=2,res:=[.tmp 4],keep:=false,body:=
 (.seq (.ops [mC 4 (.bool false)])
 (.seq (.seq (.ops [mC 5 (.int .i64 0)])
 (.block 0 (.loop (.seq (.seq (.ops [mT 6 5,mT 7 0,lN 8 7,bN 9 .lss (.t 6) (.t 8)])
 (.cond (.t 9)
 .skip
 (.exit 0)))
 (.seq (.block 1 (.seq (.ops [mT 12 0,mT 13 5,iA 14 1 12 13,l1 15 14,mT 16 1,bN 17 .eql (.t 15) (.t 16)])
 (.cond (.t 17)
 (.seq (.ops [mC 4 (.bool true)])
 .ret)
 .skip)))
 (.ops [mT 10 5,bN 11 .add (.t 10) (cI 1),mT 5 11]))))))
 (.seq (.ops [mC 4 (.bool false)])
 .ret)))}
def aR0 :aM:={np:=3,res:=[.tmp 6],keep:=false,body:=
 (.seq (.ops [bX 3 4 0,bX 4 5 1,bX 5 4 2,mC 6 (.bool false)])
 (.seq (.seq (.ops [fA 8 1 5,l1 9 8])
 (.block 0 (.seq (.ops [bN 11 .eql (.t 9) (cI 0),mT 10 11])
 (.cond (.t 10)
 (.seq (.ops [fA 12 3 5,l1 13 12,lN 14 13,mT 7 14])
 (.seq (.ops [lT 15 4 3,lT 16 5 4,fA 17 3 5,l1 18 17,cL 19 122 [(.t 15),(.t 16),(.t 18)],mT 20 19,gT 21 20 true 4 3,gT 22 20 true 5 4,gF 23 20 true 2 5,
 g1 24 20 true 23,gL 25 20 true 124 [(.t 21),(.t 22),(.t 24),(cI 1)],pA 26 20 25,mT 27 26,gM 28 27 true 7,gF 29 27 true 2 5,g1 30 27 true 29,gN 31 27 true 30,
 gB 32 27 true .add (.t 28) (.t 31),gB 33 27 true .gtr (.t 32) (cI 0),pA 34 27 33,mT 35 34,gT 36 35 true 4 3,gF 37 35 true 3 5,g1 38 35 true 37,gM 39 35 true 7,
 gM 40 35 true 7,gB 41 35 true .sub (.t 40) (cI 1),gF 42 35 true 2 5,g1 43 35 true 42,gN 44 35 true 43,gB 45 35 true .add (.t 41) (.t 44),
 og 46 35 true (.minmax true [(cI 0),(.t 45)]),og 47 35 true (.minmax false [(.t 39),(.t 46)]),gL 48 35 true 123 [(.t 36),(.t 38),(.t 47)],pA 49 35 48,mT 6 49])
 .ret))
 (.seq (.ops [bN 51 .eql (.t 9) (cI 1),mT 50 51])
 (.cond (.t 50)
 (.seq (.ops [fA 52 3 5,l1 53 52,lN 54 53,bN 55 .eql (.t 54) (cI 0),mT 56 55,gF 57 56 true 2 5,g1 58 56 true 57,gN 59 56 true 58,gB 60 56 true .eql (.t 59) (cI 1),
 pA 61 56 60,mT 62 61,gT 63 62 true 4 3,gT 64 62 true 5 4,gF 65 62 true 2 5,g1 66 62 true 65,gL 67 62 true 124 [(.t 63),(.t 64),(.t 66),(cI 1)],pA 68 62 67,
 mT 6 68])
 .ret)
 (.seq (.seq (.ops [bN 70 .eql (.t 9) (cI 2),mT 69 70])
 (.cond (.t 69)
 .skip
 (.seq (.ops [bN 71 .eql (.t 9) (cI 3),mT 69 71])
 (.cond (.t 69)
 .skip
 (.ops [bN 72 .eql (.t 9) (cI 4),mT 69 72])))))
 (.cond (.t 69)
 (.seq (.ops [fA 73 3 5,l1 74 73,lN 75 74,bN 76 .eql (.t 75) (cI 0),mT 77 76,gF 78 77 true 2 5,g1 79 77 true 78,gN 80 77 true 79,gB 81 77 true .eql (.t 80) (cI 0),
 pA 82 77 81,mT 6 82])
 .ret)
 .skip))))))))
 (.seq (.ops [mC 6 (.bool false)])
 .ret)))}
def aR1 :aM:={np:=3,res:=[.tmp 6],keep:=false,body:=
 (.seq (.ops [bX 3 4 0,bX 4 5 1,mC 6 (.bool false)])
 (.seq (.seq (.ops [mC 7 (.int .i64 0)])
 (.block 0 (.loop (.seq (.seq (.ops [mT 9 7,mT 10 2,lN 11 10,bN 12 .lss (.t 9) (.t 11),mT 13 12,gM 14 13 true 7,gB 15 13 true .leq (.t 14) (cI 40),pA 16 13 15])
 (.cond (.t 16)
 .skip
 (.exit 0)))
 (.seq (.block 1 (.seq (.ops [mT 19 2,mT 20 7,iA 21 3 19 20,lT 22 3 21,o 8 (.alloc [(.int .i64 0),(.cl []),(.cl [])]),sT 3 8 22])
 (.seq (.draw [fA 23 0 8,l1 24 23,fA 25 0 3,l1 26 25,lN 27 26,bN 28 .sub (.t 27) (cI 1),cL 29 84 [(.t 24),(cI 0),(.t 28)],nT 30 29,mT 31 30,gT 32 31 false 4 3,
 gT 33 31 false 5 4,gF 34 31 false 1 8,g1 35 31 false 34,gL 36 31 false 124 [(.t 32),(.t 33),(.t 35),(cI 30)],og 37 31 false (.un .not (.t 36)),pO 38 31 37,
 mT 39 38,gT 40 39 false 4 3,gT 41 39 false 5 4,gF 42 39 false 2 8,g1 43 39 false 42,gF 44 39 false 0 3,g1 45 39 false 44,gF 46 39 false 0 8,g1 47 39 false 46,
 og 48 39 false (.ia 4 (.t 45) (.t 47)),gT 49 39 false 4 48,gL 50 39 false 130 [(.t 49)],gL 51 39 false 124 [(.t 40),(.t 41),(.t 43),(.t 50)],
 og 52 39 false (.un .not (.t 51)),pO 53 39 52]
 [(17,27),(18,27),(20,27)])
 (.cond (.t 53)
 (.seq (.ops [mC 6 (.bool false)])
 .ret)
 .skip))))
 (.ops [mT 17 7,bN 18 .add (.t 17) (cI 1),mT 7 18]))))))
 (.seq (.ops [mT 54 2,lN 55 54,bN 56 .leq (.t 55) (cI 40),mT 6 56])
 .ret)))}
def aR2 :aM:={np:=3,res:=[.tmp 6],keep:=false,body:=
 (.seq (.ops [bX 3 4 0,mC 6 (.bool false)])
 (.seq (.seq (.ops [mC 7 (.int .i64 0)])
 (.block 0 (.loop (.seq (.seq (.ops [mT 8 7,mT 9 2,bN 10 .lss (.t 8) (.t 9)])
 (.cond (.t 10)
 .skip
 (.exit 0)))
 (.seq (.block 1 (.seq (.draw [mT 13 1,mT 14 7,iA 15 3 13 14,fA 16 2 15,l1 17 16,lN 18 17,fA 19 0 3,l1 20 19,mT 21 1,mT 22 7,iA 23 3 21 22,fA 24 0 23,l1 25 24,
 iA 26 4 20 25,lT 27 4 26,cL 28 130 [(.t 27)],bN 29 .geq (.t 18) (.t 28)]
 [(2,15),(4,15),(5,15)])
 (.cond (.t 29)
 (.seq (.ops [mC 6 (.bool false)])
 .ret)
 .skip)))
 (.ops [mT 11 7,bN 12 .add (.t 11) (cI 1),mT 7 12]))))))
 (.seq (.ops [mC 6 (.bool true)])
 .ret)))}
def aR3 :aM:={np:=4,res:=[.tmp 8],keep:=false,body:=
 (.seq (.ops [bX 4 4 0,bX 5 5 1,mC 8 (.bool false)])
 (.seq (.seq (.ops [mC 9 (.int .i64 0)])
 (.block 0 (.loop (.seq (.seq (.ops [mT 10 9,mT 11 2,lN 12 11,bN 13 .lss (.t 10) (.t 12),mT 14 13,gM 15 14 true 9,gM 16 14 true 3,gB 17 14 true .leq (.t 15) (.t 16),
 pA 18 14 17])
 (.cond (.t 18)
 .skip
 (.exit 0)))
 (.seq (.block 1 (.seq (.draw [lT 21 4 4,lT 22 5 5,mT 23 2,mT 24 9,iA 25 2 23 24,lT 26 2 25,cL 27 153 [(.t 21),(.t 22),(.t 26)],nT 28 27]
 [])
 (.cond (.t 28)
 (.seq (.ops [mC 8 (.bool false)])
 .ret)
 .skip)))
 (.ops [mT 19 9,bN 20 .add (.t 19) (cI 1),mT 9 20]))))))
 (.seq (.ops [mT 29 2,lN 30 29,mT 31 3,bN 32 .leq (.t 30) (.t 31),mT 8 32])
 .ret)))}
def aR4 :aM:={np:=2,res:=[.tmp 4],keep:=false,body:=
 (.seq (.ops [bX 2 4 0,mC 4 (.int .i64 0)])
 (.seq (.seq (.ops [mT 6 1,bN 7 .lss (.t 6) (cI 1)])
 (.cond (.t 7)
 (.seq (.ops [mC 4 (.int .i64 (-1))])
 .ret)
 .skip))
 (.seq (.ops [mT 8 1,bN 9 .sub (.t 8) (cI 1),mT 1 9])
 (.seq (.seq (.ops [mC 5 (.int .i64 0)])
 (.block 0 (.loop (.seq (.seq (.ops [mT 10 5,fA 11 3 2,l1 12 11,lN 13 12,bN 14 .lss (.t 10) (.t 13),mT 15 14,gM 16 15 true 1,gB 17 15 true .geq (.t 16) (cI 0),
 pA 18 15 17])
 (.cond (.t 18)
 .skip
 (.exit 0)))
 (.seq (.block 1 (.ops [fA 21 3 2,l1 22 21,mT 23 5,iA 24 4 22 23,lT 25 4 24,mT 26 1,cL 27 125 [(.t 25),(.t 26)],mT 1 27]))
 (.ops [mT 19 5,bN 20 .add (.t 19) (cI 1),mT 5 20]))))))
 (.seq (.ops [mT 28 1,mT 4 28])
 .ret)))))}
def aR5 :aM:={np:=1,res:=[.tmp 2],keep:=false,body:=
 (.seq (.ops [bX 1 4 0,mC 2 (.bool false)])
 (.seq (.seq (.ops [mC 3 (.int .i64 0)])
 (.block 0 (.loop (.seq (.seq (.ops [mT 4 3,fA 5 3 1,l1 6 5,lN 7 6,bN 8 .lss (.t 4) (.t 7)])
 (.cond (.t 8)
 .skip
 (.exit 0)))
 (.seq (.block 1 (.seq (.ops [fA 11 3 1,l1 12 11,mT 13 3,iA 14 4 12 13,lT 15 4 14,cL 16 126 [(.t 15)],nT 17 16])
 (.cond (.t 17)
 (.seq (.ops [mC 2 (.bool false)])
 .ret)
 .skip)))
 (.ops [mT 9 3,bN 10 .add (.t 9) (cI 1),mT 3 10]))))))
 (.seq (.ops [fA 18 2 1,l1 19 18,o 20 (.len .str (.t 19)),bN 21 .leq (.t 20) (cI 30),mT 2 21])
 .ret)))}
def aR6 :aM:={np:=3,res:=[.cell 6 true 5],keep:=false,body:=
 (.seq (.ops [bX 3 5 0,bX 5 4 2,o 6 (.alloc [(.cl []),(.cl []),(.cl []),(.cl []),(.int .i64 0)])])
 (.seq (.ops [lT 7 5 3,o 8 (.icall (.f 154) [(.t 7)]),sT 5 3 8])
 (.seq (.ops [fA 9 0 3,l1 10 9,mT 11 1,lT 12 4 5,iA 13 4 10 11,sT 4 13 12])
 (.seq (.ops [lT 14 5 3,sT 5 6 14])
 .ret))))}
def aIz :aM:={np:=1,res:=[.cell 2 true 2],keep:=false,body:=
 (.seq (.ops [bX 1 2 0,o 2 (.alloc [(.int .i64 0),(.int .i64 0)])])
 (.seq (.seq (.ops [fA 3 0 1,l1 4 3,bN 5 .eql (.t 4) (cI 4),mT 6 5,gF 7 6 false 0 1,g1 8 6 false 7,gB 9 6 false .eql (.t 8) (cI 5),pO 10 6 9])
 (.cond (.t 10)
 (.seq (.ops [cL 11 103 [(cI 0)],sT 2 2 11])
 .ret)
 .skip))
 (.seq (.ops [lT 12 2 1,sT 2 2 12])
 .ret)))}
def aR7 :aM:={np:=2,res:=[.tmp 4],keep:=false,body:=
 (.seq (.ops [bX 3 2 1,mC 4 (.cl [])])
 (.seq (.draw [mT 5 0,o 6 (.append 2 (.c (.cl [])) (.t 5)),lT 7 2 3,o 8 (.bslice 1 2 [(.int .i64 0),(.int .i64 0)] [(0,(.t 7))]),o 9 (.append 2 (.t 6) (.t 8)),mT 4 9]
 [(1,2),(1,3)])
 .ret))}
def aR8 :aM:={np:=1,res:=[.tmp 2],keep:=false,body:=
 (.seq (.ops [bX 1 4 0,mC 2 (.int .i64 0)])
 (.seq (.seq (.ops [fA 3 0 1,l1 4 3])
 (.block 0 (.seq (.seq (.ops [bN 6 .eql (.t 4) (cI 6),mT 5 6])
 (.cond (.t 5)
 .skip
 (.seq (.ops [bN 7 .eql (.t 4) (cI 9),mT 5 7])
 (.cond (.t 5)
 .skip
 (.seq (.ops [bN 8 .eql (.t 4) (cI 10),mT 5 8])
 (.cond (.t 5)
 .skip
 (.seq (.ops [bN 9 .eql (.t 4) (cI 11),mT 5 9])
 (.cond (.t 5)
 .skip
 (.seq (.ops [bN 10 .eql (.t 4) (cI 12),mT 5 10])
 (.cond (.t 5)
 .skip
 (.seq (.ops [bN 11 .eql (.t 4) (cI 13),mT 5 11])
 (.cond (.t 5)
 .skip
 (.seq (.ops [bN 12 .eql (.t 4) (cI 18),mT 5 12])
 (.cond (.t 5)
 .skip
 (.ops [bN 13 .eql (.t 4) (cI 22),mT 5 13])))))))))))))))
 (.cond (.t 5)
 (.seq (.ops [mC 2 (.int .i64 2)])
 .ret)
 (.seq (.ops [bN 15 .eql (.t 4) (cI 14),mT 14 15])
 (.cond (.t 14)
 (.seq (.ops [fA 16 2 1,l1 17 16,lN 18 17,mT 2 18])
 .ret)
 (.seq (.seq (.ops [bN 20 .eql (.t 4) (cI 7),mT 19 20])
 (.cond (.t 19)
 .skip
 (.seq (.ops [bN 21 .eql (.t 4) (cI 8),mT 19 21])
 (.cond (.t 19)
 .skip
 (.seq (.ops [bN 22 .eql (.t 4) (cI 15),mT 19 22])
 (.cond (.t 19)
 .skip
 (.seq (.ops [bN 23 .eql (.t 4) (cI 16),mT 19 23])
 (.cond (.t 19)
 .skip
 (.seq (.ops [bN 24 .eql (.t 4) (cI 17),mT 19 24])
 (.cond (.t 19)
 .skip
 (.seq (.ops [bN 25 .eql (.t 4) (cI 19),mT 19 25])
 (.cond (.t 19)
 .skip
 (.seq (.ops [bN 26 .eql (.t 4) (cI 20),mT 19 26])
 (.cond (.t 19)
 .skip
 (.seq (.ops [bN 27 .eql (.t 4) (cI 23),mT 19 27])
 (.cond (.t 19)
 .skip
 (.seq (.ops [bN 28 .eql (.t 4) (cI 24),mT 19 28])
 (.cond (.t 19)
 .skip
 (.ops [bN 29 .eql (.t 4) (cI 26),mT 19 29])))))))))))))))))))
 (.cond (.t 19)
 (.seq (.ops [mC 2 (.int .i64 1)])
 .ret)
 .skip))))))))
 (.seq (.ops [mC 2 (.int .i64 0)])
 .ret)))}
def aF5 :aM:={np:=5,res:=[.cell 10 true 11],keep:=false,body:=
 (.seq (.ops [bX 5 5 0,
 o 10 (.alloc [(.cl []),(.cl []),(.cl []),(.cl []),(.int .i64 0),(.int .i64 0),(.int .i64 0),(.int .i64 0),(.int .i64 0),(.int .i64 0),(.int .i64 0)])])
 (.seq (.seq (.ops [mT 12 2,lN 13 12,bN 14 .geq (.t 13) (cI 40),mT 15 14,gM 16 15 false 4,gN 17 15 false 16,gB 18 15 false .gtr (.t 17) (cI 30),pO 19 15 18])
 (.cond (.t 19)
 (.seq (.ops [lT 20 5 5,mT 21 1,cL 22 155 [(.t 20),(.t 21),(cI 4)],sT 11 10 22])
 .ret)
 .skip))
 (.seq (.ops [mT 23 2,o 24 (.append 3 (.c (.cl [])) (.t 23)),mT 25 3,mT 26 4,o 27 (.build [(.int .i64 0),(.cl []),(.cl [])] [(0,1,(.t 25)),(1,1,(.t 26))]),
 o 28 (.bslice 1 3 [(.int .i64 0),(.cl []),(.cl [])] [(0,(.t 27))]),o 29 (.append 3 (.t 24) (.t 28)),mT 11 29])
 (.seq (.draw [lT 30 5 5,fA 31 1 5,l1 32 31,mT 33 1,iA 34 1 32 33,l1 35 34,mT 36 11,
 o 37 (.build [(.int .i64 0),(.int .i64 0),(.cl []),(.cl [])] [(0,1,(cI 6)),(3,1,(.t 36))]),cL 38 127 [(.t 30),(.t 35),(.t 37)],
 o 39 (.build [(.cl []),(.cl []),(.cl []),(.cl []),(.int .i64 0),(.int .i64 0),(.int .i64 0),(.int .i64 0),(.int .i64 0),(.int .i64 0),(.int .i64 0)] [(0,5,(.t 38))]),
 sT 11 10 39]
 [])
 .ret))))}
def fU :aM:={np:=5,res:=[.cell 10 true 11],keep:=false,body:=
 (.seq (.ops [bX 5 4 0,bX 6 5 1,bX 9 3 4,
 o 10 (.alloc [(.cl []),(.cl []),(.cl []),(.cl []),(.int .i64 0),(.int .i64 0),(.int .i64 0),(.int .i64 0),(.int .i64 0),(.int .i64 0),(.int .i64 0)])])
 (.seq (.draw [fA 13 0 5,l1 14 13,fA 15 0 9,l1 16 15,iA 17 4 14 16,lT 18 4 17,fA 19 2 9,l1 20 19,o 11 (.alloc [(.int .i64 0),(.int .i64 0),(.cl []),(.cl [])]),
 sT 4 11 18,mT 12 20]
 [(1,8),(3,8),(4,8),(5,8),(7,8),(7,9)])
 (.seq (.seq (.ops [fA 21 0 11,l1 22 21])
 (.block 0 (.seq (.ops [bN 24 .eql (.t 22) (cI 1),mT 23 24])
 (.cond (.t 23)
 (.seq (.draw [lT 25 5 6,mT 26 2,mT 27 3,fA 28 1 11,l1 29 28,cL 30 105 [(.t 29)],cL 31 156 [(.t 25),(.t 26),(.t 27),(.t 30)],sT 11 10 31]
 [(0,5)])
 .ret)
 (.seq (.ops [bN 33 .eql (.t 22) (cI 2),mT 32 33])
 (.cond (.t 32)
 (.seq (.draw [lT 34 5 6,mT 35 2,mT 36 3,fA 37 1 11,l1 38 37,bN 39 .eql (.t 38) (cI 1),cL 40 157 [(.t 39)],cL 41 156 [(.t 34),(.t 35),(.t 36),(.t 40)],
 sT 11 10 41]
 [(0,6)])
 .ret)
 (.seq (.ops [bN 43 .eql (.t 22) (cI 3),mT 42 43])
 (.cond (.t 42)
 (.seq (.draw [lT 44 5 6,mT 45 2,mT 46 3,cL 47 158 [],cL 48 156 [(.t 44),(.t 45),(.t 46),(.t 47)],sT 11 10 48]
 [(0,3)])
 .ret)
 (.seq (.ops [bN 50 .eql (.t 22) (cI 4),mT 49 50])
 (.cond (.t 49)
 (.seq (.seq (.ops [fA 51 1 11,l1 52 51,bN 53 .lss (.t 52) (cI 0)])
 (.cond (.t 53)
 (.seq (.ops [lT 54 5 6,mT 55 2,mT 56 3,fA 57 1 11,l1 58 57,bN 59 .sub (cI (-1)) (.t 58),o 60 (.build [(.int .i64 0),(.int .i64 0)] [(0,1,(cI 4)),(1,1,(.t 59))]),
 cL 61 156 [(.t 54),(.t 55),(.t 56),(.t 60)],sT 11 10 61])
 .ret)
 .skip))
 (.seq (.seq (.ops [fA 62 1 11,l1 63 62,fA 64 1 9,l1 65 64,lN 66 65,bN 67 .geq (.t 63) (.t 66)])
 (.cond (.t 67)
 (.seq (.ops [lT 68 5 6,mT 69 2,cL 70 155 [(.t 68),(.t 69),(cI 2)],sT 11 10 70])
 .ret)
 .skip))
 (.seq (.draw [lT 71 5 6,mT 72 2,mT 73 3,fA 74 1 9,l1 75 74,fA 76 1 11,l1 77 76,iA 78 2 75 77,lT 79 2 78,cL 80 156 [(.t 71),(.t 72),(.t 73),(.t 79)],sT 11 10 80]
 [])
 .ret)))
 (.seq (.ops [bN 82 .eql (.t 22) (cI 5),mT 81 82])
 (.cond (.t 81)
 (.seq (.ops [lT 83 5 6,mT 84 2,mT 85 3,fA 86 0 9,l1 87 86,fA 88 1 9,l1 89 88,
 o 90 (.build [(.int .i64 0),(.int .i64 0),(.cl []),(.cl [])] [(0,1,(cI 2)),(1,1,(.t 87)),(2,1,(.t 89))]),cL 91 159 [(.t 83),(.t 84),(.t 85),(.t 90)],
 sT 11 10 91])
 .ret)
 (.seq (.ops [bN 93 .eql (.t 22) (cI 6),mT 92 93])
 (.cond (.t 92)
 (.seq (.draw [lT 94 4 5,lT 95 5 6,mT 96 2,mT 97 3,mT 98 12,o 99 (.ia 2 (.t 98) (cI 0)),lT 100 2 99,mT 101 12,o 102 (.ia 2 (.t 101) (cI 1)),lT 103 2 102,
 cL 104 160 [(.t 94),(.t 95),(.t 96),(.t 97),(.t 100),(.t 103)],sT 11 10 104]
 [])
 .ret)
 (.seq (.ops [bN 106 .eql (.t 22) (cI 7),mT 105 106])
 (.cond (.t 105)
 (.seq (.draw [lT 107 5 6,mT 108 2,mT 109 3,fA 110 2 11,l1 111 110,o 112 (.ia 1 (.t 111) (cI 1)),l1 113 112,fA 114 1 9,l1 115 114,mT 116 12,
 o 117 (.ia 2 (.t 116) (cI 0)),lT 118 2 117,cL 119 129 [(.t 115),(.t 118)],cL 120 131 [(.t 107),(.t 108),(.t 109),(.t 113),(.t 119)],sT 11 10 120]
 [(0,12),(4,12),(5,12),(6,12)])
 .ret)
 (.seq (.ops [bN 122 .eql (.t 22) (cI 8),mT 121 122])
 (.cond (.t 121)
 (.seq (.seq (.ops [mT 123 12,o 124 (.ia 2 (.t 123) (cI 0)),fA 125 0 124,l1 126 125,bN 127 .neq (.t 126) (cI 2)])
 (.cond (.t 127)
 (.seq (.ops [lT 128 5 6,mT 129 2,cL 130 155 [(.t 128),(.t 129),(cI 2)],sT 11 10 130])
 .ret)
 .skip))
 (.seq (.draw [lT 131 5 6,mT 132 2,mT 133 3,fA 134 2 11,l1 135 134,mT 136 12,o 137 (.ia 2 (.t 136) (cI 0)),fA 138 1 137,l1 139 138,bN 140 .sub (cI 2) (.t 139),
 iA 141 1 135 140,l1 142 141,fA 143 1 9,l1 144 143,cL 145 131 [(.t 131),(.t 132),(.t 133),(.t 142),(.t 144)],sT 11 10 145]
 [])
 .ret))
 (.seq (.seq (.ops [bN 147 .eql (.t 22) (cI 9),mT 146 147])
 (.cond (.t 146)
 .skip
 (.seq (.ops [bN 148 .eql (.t 22) (cI 10),mT 146 148])
 (.cond (.t 146)
 .skip
 (.seq (.ops [bN 149 .eql (.t 22) (cI 11),mT 146 149])
 (.cond (.t 146)
 .skip
 (.seq (.ops [bN 150 .eql (.t 22) (cI 12),mT 146 150])
 (.cond (.t 146)
 .skip
 (.ops [bN 151 .eql (.t 22) (cI 13),mT 146 151])))))))))
 (.cond (.t 146)
 (.seq (.draw [lT 152 5 6,mT 153 2,mT 154 3,fA 155 0 11,l1 156 155,mT 157 12,o 158 (.ia 2 (.t 157) (cI 0)),lT 159 2 158,mT 160 12,o 161 (.ia 2 (.t 160) (cI 1)),
 lT 162 2 161,cL 163 161 [(.t 152),(.t 153),(.t 154),(.t 156),(.t 159),(.t 162)],sT 11 10 163]
 [])
 .ret)
 (.seq (.ops [bN 165 .eql (.t 22) (cI 14),mT 164 165])
 (.cond (.t 164)
 (.seq (.ops [lT 166 5 6,mT 167 2,mT 168 3,fA 169 1 11,l1 170 169,mT 171 12,
 o 172 (.build [(.int .i64 0),(.int .i64 0),(.cl []),(.cl [])] [(0,1,(cI 1)),(1,1,(.t 170)),(2,1,(.t 171))]),cL 173 159 [(.t 166),(.t 167),(.t 168),(.t 172)],
 sT 11 10 173])
 .ret)
 (.seq (.ops [bN 175 .eql (.t 22) (cI 15),mT 174 175])
 (.cond (.t 174)
 (.seq (.draw [lT 176 5 6,mT 177 2,mT 178 3,lT 179 4 11,fA 180 1 9,l1 181 180,mT 182 12,o 183 (.ia 2 (.t 182) (cI 0)),lT 184 2 183,
 cL 185 162 [(.t 176),(.t 177),(.t 178),(.t 179),(.t 181),(.t 184)],sT 11 10 185]
 [])
 .ret)
 (.seq (.ops [bN 187 .eql (.t 22) (cI 26),mT 186 187])
 (.cond (.t 186)
 (.seq (.draw [lT 188 5 6,mT 189 2,mT 190 3,mT 191 12,o 192 (.ia 2 (.t 191) (cI 0)),lT 193 2 192,cL 194 156 [(.t 188),(.t 189),(.t 190),(.t 193)],sT 11 10 194]
 [])
 .ret)
 (.seq (.ops [bN 196 .eql (.t 22) (cI 27),mT 195 196])
 (.cond (.t 195)
 (.seq (.draw [lT 197 4 5,lT 198 5 6,mT 199 2,mT 200 3,fA 201 2 11,l1 202 201,o 203 (.ia 1 (.t 202) (cI 0)),l1 204 203,fA 205 1 9,l1 206 205,
 cL 207 163 [(.t 197),(.t 198),(.t 199),(.t 200),(.t 204),(.t 206)],sT 11 10 207]
 [])
 .ret)
 (.seq (.seq (.ops [bN 209 .eql (.t 22) (cI 16),mT 208 209])
 (.cond (.t 208)
 .skip
 (.seq (.ops [bN 210 .eql (.t 22) (cI 17),mT 208 210])
 (.cond (.t 208)
 .skip
 (.ops [bN 211 .eql (.t 22) (cI 18),mT 208 211])))))
 (.cond (.t 208)
 (.seq (.ops [lT 212 5 6,mT 213 2,mT 214 3,fA 215 0 11,l1 216 215,mT 217 12,cL 218 164 [(.t 212),(.t 213),(.t 214),(.t 216),(.t 217)],sT 11 10 218])
 .ret)
 (.seq (.ops [bN 220 .eql (.t 22) (cI 19),mT 219 220])
 (.cond (.t 219)
 (.seq (.draw [lT 221 4 5,lT 222 5 6,mT 223 2,mT 224 3,mT 225 12,o 226 (.ia 2 (.t 225) (cI 0)),lT 227 2 226,
 cL 228 165 [(.t 221),(.t 222),(.t 223),(.t 224),(.t 227)],sT 11 10 228]
 [])
 .ret)
 (.seq (.ops [bN 230 .eql (.t 22) (cI 20),mT 229 230])
 (.cond (.t 229)
 (.seq (.draw [lT 231 5 6,mT 232 2,mT 233 3,mT 234 12,o 235 (.ia 2 (.t 234) (cI 0)),lT 236 2 235,cL 237 166 [(.t 231),(.t 232),(.t 233),(.t 236)],sT 11 10 237]
 [])
 .ret)
 (.seq (.ops [bN 239 .eql (.t 22) (cI 21),mT 238 239])
 (.cond (.t 238)
 (.seq (.draw [lT 240 5 6,mT 241 2,mT 242 3,o 243 (.build [(.int .i64 0),(.int .i64 0),(.cl []),(.cl [])] [(0,1,(cI 4))]),
 cL 244 159 [(.t 240),(.t 241),(.t 242),(.t 243)],mT 245 2,fA 246 0 11,l1 247 246,cL 248 158 [],
 cL 249 167 [(.t 244),(.t 245),(.t 247),(cI 0),(.t 248)],sT 11 10 249]
 [(4,7),(7,8)])
 .ret)
 (.seq (.seq (.ops [bN 251 .eql (.t 22) (cI 22),mT 250 251])
 (.cond (.t 250)
 .skip
 (.ops [bN 252 .eql (.t 22) (cI 23),mT 250 252])))
 (.cond (.t 250)
 (.seq (.ops [lT 253 5 6,mT 254 2,mT 255 3,fA 256 0 11,l1 257 256,mT 258 12,cL 259 168 [(.t 253),(.t 254),(.t 255),(.t 257),(.t 258)],sT 11 10 259])
 .ret)
 (.seq (.seq (.ops [bN 261 .eql (.t 22) (cI 24),mT 260 261])
 (.cond (.t 260)
 .skip
 (.ops [bN 262 .eql (.t 22) (cI 25),mT 260 262])))
 (.cond (.t 260)
 (.seq (.ops [lT 263 5 6,mT 264 2,mT 265 3,lT 266 4 11,mT 267 12,cL 268 169 [(.t 263),(.t 264),(.t 265),(.t 266),(.t 267)],sT 11 10 268])
 .ret)
 .skip))))))))))))))))))))))))))))))))))))))))
 (.seq (.draw [lT 269 5 6,mT 270 2,mT 271 3,cL 272 158 [],cL 273 156 [(.t 269),(.t 270),(.t 271),(.t 272)],mT 274 2,cL 275 158 [],
 cL 276 167 [(.t 273),(.t 274),(cI 28),(cI 0),(.t 275)],sT 11 10 276]
 [(0,3)])
 .ret))))}
def aR9 :aM:={np:=2,res:=[.tmp 4],keep:=false,body:=
 (.seq (.ops [mC 4 (.int .i64 0)])
 (.seq (.seq (.ops [mT 6 0,lN 7 6,mC 8 (.int .i64 0)])
 (.block 0 (.loop (.seq (.ops [bN 9 .lss (.t 8) (.t 7)])
 (.seq (.cond (.t 9)
 .skip
 (.exit 0))
 (.seq (.block 1 (.seq (.ops [mT 10 8,mT 5 10])
 (.seq (.ops [mT 11 1,mT 12 0,mT 13 5,iA 14 1 12 13,l1 15 14,bN 16 .eql (.t 11) (.t 15)])
 (.cond (.t 16)
 (.seq (.ops [mT 17 5,mT 4 17])
 .ret)
 .skip))))
 (.ops [bN 18 .add (.t 8) (cI 1),mT 8 18])))))))
 (.seq (.ops [mC 4 (.int .i64 (-1))])
 .ret)))}
def aSa :aM:={np:=1,res:=[.tmp 2],keep:=false,body:=
 (.seq (.ops [bX 1 4 0,mC 2 (.int .i64 0)])
 (.seq (.seq (.ops [lT 3 4 1,o 4 (.build [(.cl []),(.cl []),(.int .i64 0),(.cl [])] [(0,4,(.t 3))]),cL 5 175 [(.t 4)],nT 6 5])
 (.cond (.t 6)
 (.seq (.ops [mC 2 (.int .i64 2)])
 .ret)
 .skip))
 (.seq (.ops [mC 2 (.int .i64 0)])
 .ret)))}
def aSb :aM:={np:=1,res:=[.tmp 2],keep:=false,body:=
 (.seq (.ops [mC 2 (.bool false)])
 (.seq (.ops [mT 3 0,nK 4 3,fA 5 4 4,fA 6 0 5,l1 7 6,lN 8 7,bN 9 .leq (.t 8) (cI 120),mT 10 9,gM 11 10 true 0,og 12 10 true (.nilck (.t 11)),gF 13 10 true 4 12,
 gF 14 10 true 0 13,g1 15 10 true 14,gM 16 10 true 0,og 17 10 true (.mkfn 177 [(.t 16)] []),gL 18 10 true 176 [(.t 15),(.t 17)],
 pA 19 10 18,mT 20 19,gM 21 20 true 0,gL 22 20 true 178 [(.t 21)],pA 23 20 22,mT 24 23,gM 25 24 true 0,og 26 24 true (.nilck (.t 25)),
 gF 27 24 true 4 26,gF 28 24 true 2 27,g1 29 24 true 28,gN 30 24 true 29,gB 31 24 true .leq (.t 30) (cI 100),pA 32 24 31,mT 33 32,gM 34 33 true 0,
 og 35 33 true (.nilck (.t 34)),gF 36 33 true 4 35,gF 37 33 true 2 36,g1 38 33 true 37,gL 39 33 true 179 [(.t 38),(.f 180)],
 pA 40 33 39,mT 41 40,gM 42 41 true 0,og 43 41 true (.nilck (.t 42)),gF 44 41 true 4 43,gF 45 41 true 3 44,g1 46 41 true 45,gL 47 41 true 183 [(.t 46)],
 pA 48 41 47,mT 49 48,gM 50 49 true 0,og 51 49 true (.nilck (.t 50)),gF 52 49 true 4 51,gF 53 49 true 4 52,g1 54 49 true 53,
 gL 55 49 true 181 [(.t 54),(cI 0),(cI 1000000000)],pA 56 49 55,mT 2 56])
 .ret))}
def aF6 :aM:={np:=2,res:=[.tmp 3],keep:=false,body:=
 (.seq (.ops [mC 3 (.cl [])])
 (.seq (.ops [mT 5 0,cL 6 144 [(.t 5)],mT 0 6])
 (.seq (.seq (.ops [mT 7 0,lN 8 7,mC 9 (.int .i64 0)])
 (.block 0 (.loop (.seq (.ops [bN 10 .lss (.t 9) (.t 8)])
 (.seq (.cond (.t 10)
 .skip
 (.exit 0))
 (.seq (.block 1 (.seq (.ops [mT 11 9,mT 4 11])
 (.seq (.ops [mT 12 0,mT 13 4,iA 14 2 12 13,fA 15 0 14,l1 16 15,bN 17 .eql (.t 16) (cI 5),mT 18 17,g1 19 18 true 1,og 20 18 true (.bin .neq .map (.t 19) (.c .nilm)),
 pA 21 18 20])
 (.cond (.t 21)
 (.draw [mT 22 0,mT 23 4,l1 24 1,mT 25 0,mT 26 4,iA 27 2 25 26,fA 28 1 27,l1 29 28,o 30 (.mget .num (.int .i64 0) false (.t 24) (.t 29)),iA 31 2 22 23,fA 32 1 31,
 sT 1 32 30]
 [])
 .skip))))
 (.ops [bN 33 .add (.t 9) (cI 1),mT 9 33])))))))
 (.seq (.ops [mT 34 0,mT 3 34])
 .ret))))}
def aI0 :aM:={np:=1,res:=[.tmp 2],keep:=true,amb:=true,body:=
 (.seq (.ops [mC 2 (.cl [])])
 (.seq (.seq (.ops [mT 3 0,o 4 (.bin .eql .slice (.t 3) (.c (.es true)))])
 (.cond (.t 4)
 (.seq (.ops [mC 2 (.cl [])])
 .ret)
 .skip))
 (.seq (.ops [o 5 (.bslice 0 2 [(.int .i64 0),(.int .i64 0)] []),mT 6 0,o 7 (.append 2 (.t 5) (.t 6)),mT 2 7])
 .ret)))}
def aSc :aM:={np:=1,res:=[.tmp 2],keep:=false,body:=
 (.seq (.ops [mC 2 (.bool false)])
 (.seq (.ops [mT 3 0,o 4 (.len .str (.t 3)),bN 5 .geq (.t 4) (cI 1),mT 6 5,gM 7 6 true 0,og 8 6 true (.len .str (.t 7)),gB 9 6 true .leq (.t 8) (cI 8),pA 10 6 9,
 mT 11 10,gM 12 11 true 0,og 13 11 true (.ixs (.t 12) (cI 0)),gB 14 11 true .geq (.t 13) (.c (.int .u8 65)),pA 15 11 14,mT 16 15,gM 17 16 true 0,
 og 18 16 true (.ixs (.t 17) (cI 0)),gB 19 16 true .leq (.t 18) (.c (.int .u8 90)),pA 20 16 19,mT 21 20,gM 22 21 true 0,
 og 23 21 true (.slice true 1 (.t 22) (some (cI 1)) none none),gL 24 21 true 184 [(.t 23)],pA 25 21 24,mT 2 25])
 .ret))}
def aSd :aM:={np:=1,res:=[.tmp 2],keep:=false,body:=
 (.seq (.ops [mC 2 (.bool false)])
 (.seq (.seq (.ops [mC 3 (.int .i64 0)])
 (.block 0 (.loop (.seq (.seq (.ops [mT 4 3,mT 5 0,lN 6 5,bN 7 .lss (.t 4) (.t 6)])
 (.cond (.t 7)
 .skip
 (.exit 0)))
 (.seq (.block 1 (.seq (.draw [mT 10 0,mT 11 3,o 12 (.slice false 1 (.t 10) none (some (.t 11)) none),mT 13 0,mT 14 3,iA 15 1 13 14,l1 16 15,
 cL 17 185 [(.t 12),(.t 16)]]
 [])
 (.cond (.t 17)
 (.seq (.ops [mC 2 (.bool false)])
 .ret)
 .skip)))
 (.ops [mT 8 3,bN 9 .add (.t 8) (cI 1),mT 3 9]))))))
 (.seq (.ops [mC 2 (.bool true)])
 .ret)))}
def aSe :aM:={np:=2,res:=[.tmp 4],keep:=false,body:=
 (.seq (.ops [bX 2 4 0,mC 4 (.bool false)])
 (.seq (.ops [mC 5 (.bool false)])
 (.seq (.ops [fA 8 3 2,l1 9 8,lN 10 9,mT 6 10])
 (.seq (.seq (.ops [fA 11 0 2,l1 12 11])
 (.block 0 (.seq (.seq (.ops [bN 14 .eql (.t 12) (cI 1),mT 13 14])
 (.cond (.t 13)
 .skip
 (.seq (.ops [bN 15 .eql (.t 12) (cI 2),mT 13 15])
 (.cond (.t 13)
 .skip
 (.ops [bN 16 .eql (.t 12) (cI 5),mT 13 16])))))
 (.cond (.t 13)
 (.ops [mT 17 6,bN 18 .eql (.t 17) (cI 0),mT 19 18,gF 20 19 true 1 2,g1 21 19 true 20,gB 22 19 true .eql (.t 21) (cI 0),pA 23 19 22,mT 5 23])
 (.seq (.ops [bN 25 .eql (.t 12) (cI 3),mT 24 25])
 (.cond (.t 24)
 (.ops [mT 26 6,bN 27 .eql (.t 26) (cI 0),mT 28 27,gF 29 28 true 1 2,g1 30 28 true 29,gL 31 28 true 111 [(.t 30),(cI (-1000000000)),(cI 1000000000)],pA 32 28 31,
 mT 5 32])
 (.seq (.ops [bN 34 .eql (.t 12) (cI 4),mT 33 34])
 (.cond (.t 33)
 (.ops [mT 35 6,bN 36 .eql (.t 35) (cI 0),mT 37 36,gF 38 37 true 1 2,g1 39 37 true 38,gL 40 37 true 111 [(.t 39),(cI 0),(cI 1)],pA 41 37 40,mT 5 41])
 (.seq (.ops [bN 43 .eql (.t 12) (cI 6),mT 42 43])
 (.cond (.t 42)
 (.ops [fA 44 1 2,l1 45 44,mT 46 1,lN 47 46,bN 48 .sub (.t 47) (cI 1),cL 49 111 [(.t 45),(cI 0),(.t 48)],mT 50 49,gM 51 50 true 6,gM 52 50 true 1,
 gF 53 50 true 1 2,g1 54 50 true 53,og 55 50 true (.ia 2 (.t 52) (.t 54)),gF 56 50 true 1 55,g1 57 50 true 56,gB 58 50 true .eql (.t 51) (.t 57),pA 59 50 58,mT 5 59])
 .skip))))))))))
 (.seq (.ops [mT 60 5,mT 61 60,gF 62 61 true 2 2,g1 63 61 true 62,og 64 61 true (.bin .eql .str (.t 63) (.c (.str ⟨#[]⟩))),pA 65 61 64,mT 5 65])
 (.seq (.seq (.ops [mC 7 (.int .i64 0)])
 (.block 1 (.loop (.seq (.seq (.ops [mT 66 7,mT 67 6,bN 68 .lss (.t 66) (.t 67),mT 69 68,gM 70 69 true 5,pA 71 69 70])
 (.cond (.t 71)
 .skip
 (.exit 1)))
 (.seq (.block 2 (.ops [fA 74 3 2,l1 75 74,mT 76 7,iA 77 4 75 76,lT 78 4 77,mT 79 1,cL 80 147 [(.t 78),(.t 79)],mT 5 80]))
 (.ops [mT 72 7,bN 73 .add (.t 72) (cI 1),mT 7 73]))))))
 (.seq (.ops [mT 81 5,mT 4 81])
 .ret)))))))}
def aSf :aM:={np:=3,res:=[.tmp 6],keep:=false,body:=
 (.seq (.ops [mC 6 (.int .i64 0)])
 (.seq (.seq (.ops [mT 7 0])
 (.block 0 (.seq (.seq (.ops [bN 9 .eql (.t 7) (cI 1),mT 8 9])
 (.cond (.t 8)
 .skip
 (.seq (.ops [bN 10 .eql (.t 7) (cI 2),mT 8 10])
 (.cond (.t 8)
 .skip
 (.seq (.ops [bN 11 .eql (.t 7) (cI 3),mT 8 11])
 (.cond (.t 8)
 .skip
 (.seq (.ops [bN 12 .eql (.t 7) (cI 4),mT 8 12])
 (.cond (.t 8)
 .skip
 (.seq (.ops [bN 13 .eql (.t 7) (cI 21),mT 8 13])
 (.cond (.t 8)
 .skip
 (.seq (.ops [bN 14 .eql (.t 7) (cI 25),mT 8 14])
 (.cond (.t 8)
 .skip
 (.ops [bN 15 .eql (.t 7) (cI 28),mT 8 15])))))))))))))
 (.cond (.t 8)
 (.seq (.ops [mC 6 (.int .i64 0)])
 .ret)
 (.seq (.seq (.ops [bN 17 .eql (.t 7) (cI 5),mT 16 17])
 (.cond (.t 16)
 .skip
 (.seq (.ops [bN 18 .eql (.t 7) (cI 27),mT 16 18])
 (.cond (.t 16)
 .skip
 (.seq (.ops [bN 19 .eql (.t 7) (cI 16),mT 16 19])
 (.cond (.t 16)
 .skip
 (.seq (.ops [bN 20 .eql (.t 7) (cI 17),mT 16 20])
 (.cond (.t 16)
 .skip
 (.seq (.ops [bN 21 .eql (.t 7) (cI 19),mT 16 21])
 (.cond (.t 16)
 .skip
 (.seq (.ops [bN 22 .eql (.t 7) (cI 20),mT 16 22])
 (.cond (.t 16)
 .skip
 (.seq (.ops [bN 23 .eql (.t 7) (cI 23),mT 16 23])
 (.cond (.t 16)
 .skip
 (.seq (.ops [bN 24 .eql (.t 7) (cI 26),mT 16 24])
 (.cond (.t 16)
 .skip
 (.ops [bN 25 .eql (.t 7) (cI 24),mT 16 25])))))))))))))))))
 (.cond (.t 16)
 (.seq (.ops [mC 6 (.int .i64 1)])
 .ret)
 (.seq (.seq (.ops [bN 27 .eql (.t 7) (cI 6),mT 26 27])
 (.cond (.t 26)
 .skip
 (.seq (.ops [bN 28 .eql (.t 7) (cI 7),mT 26 28])
 (.cond (.t 26)
 .skip
 (.seq (.ops [bN 29 .eql (.t 7) (cI 9),mT 26 29])
 (.cond (.t 26)
 .skip
 (.seq (.ops [bN 30 .eql (.t 7) (cI 10),mT 26 30])
 (.cond (.t 26)
 .skip
 (.seq (.ops [bN 31 .eql (.t 7) (cI 11),mT 26 31])
 (.cond (.t 26)
 .skip
 (.seq (.ops [bN 32 .eql (.t 7) (cI 12),mT 26 32])
 (.cond (.t 26)
 .skip
 (.seq (.ops [bN 33 .eql (.t 7) (cI 13),mT 26 33])
 (.cond (.t 26)
 .skip
 (.seq (.ops [bN 34 .eql (.t 7) (cI 18),mT 26 34])
 (.cond (.t 26)
 .skip
 (.ops [bN 35 .eql (.t 7) (cI 22),mT 26 35])))))))))))))))))
 (.cond (.t 26)
 (.seq (.ops [mC 6 (.int .i64 2)])
 .ret)
 (.seq (.ops [bN 37 .eql (.t 7) (cI 8),mT 36 37])
 (.cond (.t 36)
 (.seq (.ops [mC 6 (.int .i64 3)])
 .ret)
 (.seq (.ops [bN 39 .eql (.t 7) (cI 15),mT 38 39])
 (.cond (.t 38)
 (.seq (.ops [mT 40 1,bN 41 .add (cI 1) (.t 40),mT 6 41])
 .ret)
 (.seq (.ops [bN 43 .eql (.t 7) (cI 14),mT 42 43])
 (.cond (.t 42)
 (.seq (.ops [mT 44 2,mT 6 44])
 .ret)
 .skip))))))))))))))
 (.seq (.ops [mC 6 (.int .i64 (-1))])
 .ret)))}
def aSg :aM:={np:=2,res:=[.tmp 4],keep:=false,body:=
 (.seq (.ops [mC 4 (.bool false)])
 (.seq (.seq (.ops [mT 6 0,lN 7 6,mT 8 1,lN 9 8,bN 10 .neq (.t 7) (.t 9)])
 (.cond (.t 10)
 (.seq (.ops [mC 4 (.bool false)])
 .ret)
 .skip))
 (.seq (.seq (.ops [mT 11 0,lN 12 11,mC 13 (.int .i64 0)])
 (.block 0 (.loop (.seq (.ops [bN 14 .lss (.t 13) (.t 12)])
 (.seq (.cond (.t 14)
 .skip
 (.exit 0))
 (.seq (.block 1 (.seq (.ops [mT 15 13,mT 5 15])
 (.seq (.draw [mT 16 0,mT 17 5,iA 18 1 16 17,l1 19 18,mT 20 1,mT 21 5,iA 22 1 20 21,l1 23 22,bN 24 .neq (.t 19) (.t 23)]
 [])
 (.cond (.t 24)
 (.seq (.ops [mC 4 (.bool false)])
 .ret)
 .skip))))
 (.ops [bN 25 .add (.t 13) (cI 1),mT 13 25])))))))
 (.seq (.ops [mC 4 (.bool true)])
 .ret))))}
def aSh :aM:={np:=2,res:=[.tmp 4],keep:=false,body:=
 (.seq (.ops [mC 4 (.bool false)])
 (.seq (.ops [mT 5 0,mT 6 1,cL 7 186 [(.t 5),(.t 6)],mT 4 7])
 .ret))}
def aSi :aM:={np:=3,res:=[.tmp 6],keep:=false,body:=
 (.seq (.ops [mC 6 (.bool false)])
 (.seq (.seq (.ops [mT 10 0,lN 11 10,mT 12 1,lN 13 12,bN 14 .neq (.t 11) (.t 13)])
 (.cond (.t 14)
 (.seq (.ops [mC 6 (.bool false)])
 .ret)
 .skip))
 (.seq (.seq (.ops [mT 15 0,lN 16 15,mC 17 (.int .i64 0)])
 (.block 0 (.loop (.seq (.ops [bN 18 .lss (.t 17) (.t 16)])
 (.seq (.cond (.t 18)
 .skip
 (.exit 0))
 (.seq (.block 1 (.seq (.ops [mT 19 17,iA 20 3 15 17,lT 21 3 20,o 8 (.alloc [(.int .i64 0),(.cl []),(.cl [])]),mT 7 19,sT 3 8 21])
 (.seq (.ops [mT 22 1,mT 23 7,iA 24 3 22 23,lT 25 3 24,o 9 (.alloc [(.int .i64 0),(.cl []),(.cl [])]),sT 3 9 25])
 (.seq (.ops [mT 26 2,lT 27 3 8,lT 28 3 9,o 29 (.call (.t 26) [(.t 27),(.t 28)]),nT 30 29])
 (.cond (.t 30)
 (.seq (.ops [mC 6 (.bool false)])
 .ret)
 .skip)))))
 (.ops [bN 31 .add (.t 17) (cI 1),mT 17 31])))))))
 (.seq (.ops [mC 6 (.bool true)])
 .ret))))}
def aSj :aM:={np:=2,res:=[.tmp 4],keep:=false,body:=
 (.seq (.ops [bX 2 3 0,bX 3 3 1,mC 4 (.bool false)])
 (.seq (.ops [fA 5 0 2,l1 6 5,fA 7 0 3,l1 8 7,bN 9 .eql (.t 6) (.t 8),mT 10 9,gF 11 10 true 1 2,g1 12 10 true 11,gF 13 10 true 1 3,g1 14 10 true 13,
 gL 15 10 true 150 [(.t 12),(.t 14)],pA 16 10 15,mT 17 16,gF 18 17 true 2 2,g1 19 17 true 18,gF 20 17 true 2 3,g1 21 17 true 20,
 gL 22 17 true 150 [(.t 19),(.t 21)],pA 23 17 22,mT 4 23])
 .ret))}
def aSk :aM:={np:=3,res:=[.tmp 6],keep:=false,body:=
 (.seq (.ops [bX 3 4 0,bX 4 5 1,bX 5 2 2,mC 6 (.bool false)])
 (.seq (.seq (.ops [fA 7 0 5,l1 8 7])
 (.block 0 (.seq (.ops [bN 10 .eql (.t 8) (cI 1),mT 9 10])
 (.cond (.t 9)
 (.seq (.ops [fA 11 1 5,l1 12 11,cL 13 84 [(.t 12),(cI (-1000000000)),(cI 1000000000)],mT 6 13])
 .ret)
 (.seq (.ops [bN 15 .eql (.t 8) (cI 2),mT 14 15])
 (.cond (.t 14)
 (.seq (.ops [fA 16 1 5,l1 17 16,cL 18 84 [(.t 17),(cI 0),(cI 1)],mT 6 18])
 .ret)
 (.seq (.ops [bN 20 .eql (.t 8) (cI 3),mT 19 20])
 (.cond (.t 19)
 (.seq (.ops [fA 21 1 5,l1 22 21,bN 23 .eql (.t 22) (cI 0),mT 6 23])
 .ret)
 (.seq (.ops [bN 25 .eql (.t 8) (cI 4),mT 24 25])
 (.cond (.t 24)
 (.seq (.ops [fA 26 1 5,l1 27 26,fA 28 1 3,l1 29 28,lN 30 29,bN 31 .sub (.t 30) (cI 1),cL 32 84 [(.t 27),(cI 0),(.t 31)],mT 6 32])
 .ret)
 (.seq (.ops [bN 34 .eql (.t 8) (cI 5),mT 33 34])
 (.cond (.t 33)
 (.seq (.ops [fA 35 1 5,l1 36 35,fA 37 0 4,l1 38 37,lN 39 38,bN 40 .sub (.t 39) (cI 1),cL 41 84 [(.t 36),(cI 0),(.t 40)],mT 6 41])
 .ret)
 .skip))))))))))))
 (.seq (.ops [mC 6 (.bool false)])
 .ret)))}
def aM3 :aM:={np:=1,res:=[.cell 2 true 5],keep:=false,body:=
 (.seq (.ops [bX 1 5 0,o 2 (.alloc [(.cl []),(.cl []),(.cl []),(.cl []),(.int .i64 0)])])
 (.seq (.draw [fA 3 0 1,l1 4 3,o 5 (.append 4 (.c (.cl [])) (.t 4)),fA 6 1 1,l1 7 6,o 8 (.append 1 (.c (.cl [])) (.t 7)),fA 9 2 1,l1 10 9,
 o 11 (.append 2 (.c (.cl [])) (.t 10)),fA 12 3 1,l1 13 12,o 14 (.append 1 (.c (.cl [])) (.t 13)),fA 15 4 1,l1 16 15,
 o 17 (.build [(.cl []),(.cl []),(.cl []),(.cl []),(.int .i64 0)] [(0,1,(.t 5)),(1,1,(.t 8)),(2,1,(.t 11)),(3,1,(.t 14)),(4,1,(.t 16))]),sT 5 2 17]
 [(2,4),(2,7),(5,7),(2,10),(5,10),(8,10),(2,13),(5,13),(8,13),(11,13)])
 .ret))}
def aSl :aM:={np:=3,res:=[.cell 6 true 11],keep:=false,body:=
 (.seq (.ops [bX 3 5 0,
 o 6 (.alloc [(.cl []),(.cl []),(.cl []),(.cl []),(.int .i64 0),(.int .i64 0),(.int .i64 0),(.int .i64 0),(.int .i64 0),(.int .i64 0),(.int .i64 0)])])
 (.seq (.draw [lT 7 5 3,fA 8 1 3,l1 9 8,mT 10 1,iA 11 1 9 10,l1 12 11,mT 13 2,
 o 14 (.build [(.int .i64 0),(.int .i64 0),(.cl []),(.cl [])] [(0,1,(cI 6)),(1,1,(.t 13))]),cL 15 127 [(.t 7),(.t 12),(.t 14)],mT 16 1,mT 17 2,
 o 18 (.build [(.int .i64 0),(.int .i64 0),(.int .i64 0),(.int .i64 0),(.int .i64 0)] [(0,1,(.t 16)),(2,1,(.t 17))]),
 o 19 (.build [(.cl []),(.cl []),(.cl []),(.cl []),(.int .i64 0),(.int .i64 0),(.int .i64 0),(.int .i64 0),(.int .i64 0),(.int .i64 0),(.int .i64 0)] [(0,5,(.t 15)),(5,1,(cI 1)),(6,5,(.t 18))]),
 sT 11 6 19]
 [])
 .ret))}
def aSm :aM:={np:=4,res:=[.cell 8 true 11],keep:=false,body:=
 (.seq (.ops [bX 4 5 0,bX 7 2 3,
 o 8 (.alloc [(.cl []),(.cl []),(.cl []),(.cl []),(.int .i64 0),(.int .i64 0),(.int .i64 0),(.int .i64 0),(.int .i64 0),(.int .i64 0),(.int .i64 0)])])
 (.seq (.draw [lT 9 5 4,fA 10 1 4,l1 11 10,mT 12 1,iA 13 1 11 12,l1 14 13,mT 15 2,lT 16 2 7,o 17 (.bslice 1 2 [(.int .i64 0),(.int .i64 0)] [(0,(.t 16))]),
 o 18 (.build [(.int .i64 0),(.int .i64 0),(.cl []),(.cl [])] [(0,1,(cI 6)),(3,1,(.t 15)),(2,1,(.t 17))]),o 19 (.icall (.f 127) [(.t 9),(.t 14),(.t 18)]),
 o 20 (.build [(.cl []),(.cl []),(.cl []),(.cl []),(.int .i64 0),(.int .i64 0),(.int .i64 0),(.int .i64 0),(.int .i64 0),(.int .i64 0),(.int .i64 0)] [(0,5,(.t 19))]),
 sT 11 8 20]
 [(0,8),(2,8),(4,8),(5,8)])
 .ret))}
def aSn :aM:={np:=1,res:=[.cell 2 true 2],keep:=false,body:=
 (.seq (.ops [o 2 (.alloc [(.int .i64 0),(.int .i64 0)])])
 (.seq (.seq (.ops [mT 3 0])
 (.cond (.t 3)
 (.seq (.ops [o 4 (.build [(.int .i64 0),(.int .i64 0)] [(0,1,(cI 2)),(1,1,(cI 1))]),sT 2 2 4])
 .ret)
 .skip))
 (.seq (.ops [o 5 (.build [(.int .i64 0),(.int .i64 0)] [(0,1,(cI 2))]),sT 2 2 5])
 .ret)))}
def aSo :aM:={np:=0,res:=[.cell 0 true 2],keep:=false,body:=
 (.seq (.ops [o 0 (.alloc [(.int .i64 0),(.int .i64 0)])])
 (.seq (.ops [o 1 (.build [(.int .i64 0),(.int .i64 0)] [(0,1,(cI 3))]),sT 2 0 1])
 .ret))}
def aM4 :aM:={np:=4,res:=[.cell 8 true 11],keep:=false,body:=
 (.seq (.ops [bX 4 5 0,bX 7 4 3,
 o 8 (.alloc [(.cl []),(.cl []),(.cl []),(.cl []),(.int .i64 0),(.int .i64 0),(.int .i64 0),(.int .i64 0),(.int .i64 0),(.int .i64 0),(.int .i64 0)])])
 (.seq (.seq (.ops [fA 9 0 4,l1 10 9,lN 11 10,bN 12 .geq (.t 11) (cI 120)])
 (.cond (.t 12)
 (.seq (.ops [lT 13 5 4,mT 14 1,cL 15 155 [(.t 13),(.t 14),(cI 4)],sT 11 8 15])
 .ret)
 .skip))
 (.seq (.ops [lT 16 5 4,o 17 (.icall (.f 154) [(.t 16)]),sT 5 4 17])
 (.seq (.ops [fA 18 0 4,l1 19 18,lT 20 4 7,o 21 (.bslice 1 4 [(.int .i64 0),(.int .i64 0),(.cl []),(.cl [])] [(0,(.t 20))]),o 22 (.append 4 (.t 19) (.t 21)),fA 23 0 4,
 sT 1 23 22])
 (.seq (.draw [lT 24 5 4,mT 25 1,mT 26 2,fA 27 0 4,l1 28 27,lN 29 28,bN 30 .sub (.t 29) (cI 1),cL 31 103 [(.t 30)],
 o 32 (.icall (.f 156) [(.t 24),(.t 25),(.t 26),(.t 31)]),sT 11 8 32]
 [(0,7)])
 .ret)))))}
def aA9 :aM:={np:=6,res:=[.cell 12 true 11],keep:=false,body:=
 (.seq (.ops [bX 6 4 0,bX 7 5 1,bX 10 2 4,bX 11 2 5,
 o 12 (.alloc [(.cl []),(.cl []),(.cl []),(.cl []),(.int .i64 0),(.int .i64 0),(.int .i64 0),(.int .i64 0),(.int .i64 0),(.int .i64 0),(.int .i64 0)])])
 (.seq (.seq (.ops [lT 19 5 7,lT 20 2 10,cL 21 187 [(.t 19),(.t 20),(cI 5)],mT 18 21,o 22 (.ext 0 (.t 18)),o 23 (.ext 1 (.t 18)),
 o 13 (.alloc [(.int .i64 0),(.int .i64 0),(.cl []),(.cl [])]),sT 4 13 22,mT 14 23])
 (.seq (.ops [mT 24 14])
 (.cond (.t 24)
 (.seq (.draw [mT 25 3,o 26 (.append 3 (.c (.cl [])) (.t 25)),fA 27 3 13,l1 28 27,o 29 (.append 3 (.t 26) (.t 28)),mT 15 29]
 [(1,3)])
 (.seq (.seq (.ops [mT 30 15,lN 31 30,bN 32 .gtr (.t 31) (cI 40)])
 (.cond (.t 32)
 (.seq (.ops [lT 33 5 7,mT 34 2,cL 35 155 [(.t 33),(.t 34),(cI 4)],sT 11 12 35])
 .ret)
 .skip))
 (.seq (.ops [lT 36 5 7,mT 37 2,mT 38 15,lT 39 2 11,cL 40 156 [(.t 36),(.t 37),(.t 38),(.t 39)],sT 11 12 40])
 .ret)))
 .skip)))
 (.seq (.ops [lT 42 4 6,lT 43 5 7,lT 44 2 10,lT 45 2 11,cL 46 188 [(.t 42),(.t 43),(.t 44),(.t 45)],mT 41 46,o 47 (.ext 0 (.t 41)),o 48 (.ext 1 (.t 41)),
 o 16 (.alloc [(.int .i64 0),(.cl []),(.cl [])]),sT 3 16 47,mT 17 48])
 (.seq (.seq (.ops [mT 49 17,nT 50 49])
 (.cond (.t 50)
 (.seq (.ops [lT 51 5 7,mT 52 2,cL 53 155 [(.t 51),(.t 52),(cI 2)],sT 11 12 53])
 .ret)
 .skip))
 (.seq (.ops [lT 54 5 7,mT 55 2,mT 56 3,fA 57 0 16,l1 58 57,fA 59 1 16,l1 60 59,cL 61 131 [(.t 54),(.t 55),(.t 56),(.t 58),(.t 60)],sT 11 12 61])
 .ret)))))}
def wN :aM:={np:=6,res:=[.cell 12 true 11],keep:=false,body:=
 (.seq (.ops [bX 6 5 0,bX 10 2 4,bX 11 2 5,
 o 12 (.alloc [(.cl []),(.cl []),(.cl []),(.cl []),(.int .i64 0),(.int .i64 0),(.int .i64 0),(.int .i64 0),(.int .i64 0),(.int .i64 0),(.int .i64 0)])])
 (.seq (.seq (.ops [mT 14 3,bN 15 .eql (.t 14) (cI 13)])
 (.cond (.t 15)
 (.seq (.seq (.ops [fA 16 0 10,l1 17 16,fA 18 0 11,l1 19 18,bN 20 .neq (.t 17) (.t 19),mT 21 20,gF 22 21 false 0 10,g1 23 21 false 22,
 gB 24 21 false .gtr (.t 23) (cI 3),pO 25 21 24])
 (.cond (.t 25)
 (.seq (.ops [lT 26 5 6,mT 27 1,cL 28 155 [(.t 26),(.t 27),(cI 2)],sT 11 12 28])
 .ret)
 .skip))
 (.seq (.draw [lT 29 5 6,mT 30 1,mT 31 2,lT 32 2 10,lT 33 2 11,o 34 (.bin .eql (.agg [.num,.num]) (.t 32) (.t 33)),cL 35 157 [(.t 34)],
 cL 36 156 [(.t 29),(.t 30),(.t 31),(.t 35)],sT 11 12 36]
 [(0,6)])
 .ret))
 .skip))
 (.seq (.seq (.ops [fA 37 0 10,l1 38 37,bN 39 .neq (.t 38) (cI 1),mT 40 39,gF 41 40 false 0 11,g1 42 40 false 41,gB 43 40 false .neq (.t 42) (cI 1),pO 44 40 43])
 (.cond (.t 44)
 (.seq (.ops [lT 45 5 6,mT 46 1,cL 47 155 [(.t 45),(.t 46),(cI 2)],sT 11 12 47])
 .ret)
 .skip))
 (.seq (.ops [mC 13 (.int .i64 0)])
 (.seq (.seq (.ops [mT 48 3])
 (.block 0 (.seq (.ops [bN 50 .eql (.t 48) (cI 12),mT 49 50])
 (.cond (.t 49)
 (.seq (.draw [lT 51 5 6,mT 52 1,mT 53 2,fA 54 1 10,l1 55 54,fA 56 1 11,l1 57 56,bN 58 .lss (.t 55) (.t 57),cL 59 157 [(.t 58)],
 cL 60 156 [(.t 51),(.t 52),(.t 53),(.t 59)],sT 11 12 60]
 [(0,8)])
 .ret)
 (.seq (.ops [bN 62 .eql (.t 48) (cI 9),mT 61 62])
 (.cond (.t 61)
 (.ops [fA 63 1 10,l1 64 63,fA 65 1 11,l1 66 65,bN 67 .add (.t 64) (.t 66),mT 13 67])
 (.seq (.ops [bN 69 .eql (.t 48) (cI 10),mT 68 69])
 (.cond (.t 68)
 (.ops [fA 70 1 10,l1 71 70,fA 72 1 11,l1 73 72,bN 74 .sub (.t 71) (.t 73),mT 13 74])
 (.seq (.ops [bN 76 .eql (.t 48) (cI 11),mT 75 76])
 (.cond (.t 75)
 (.ops [fA 77 1 10,l1 78 77,fA 79 1 11,l1 80 79,bN 81 .mul (.t 78) (.t 80),mT 13 81])
 .skip))))))))))
 (.seq (.seq (.ops [mT 82 13,cL 83 84 [(.t 82),(cI (-1000000000)),(cI 1000000000)],nT 84 83])
 (.cond (.t 84)
 (.seq (.ops [lT 85 5 6,mT 86 1,cL 87 155 [(.t 85),(.t 86),(cI 4)],sT 11 12 87])
 .ret)
 .skip))
 (.seq (.draw [lT 88 5 6,mT 89 1,mT 90 2,mT 91 13,cL 92 105 [(.t 91)],cL 93 156 [(.t 88),(.t 89),(.t 90),(.t 92)],sT 11 12 93]
 [(0,4)])
 .ret)))))))}
def aSp :aM:={np:=6,res:=[.cell 12 true 11],keep:=false,body:=
 (.seq (.ops [bX 6 5 0,bX 9 4 3,bX 11 2 5,
 o 12 (.alloc [(.cl []),(.cl []),(.cl []),(.cl []),(.int .i64 0),(.int .i64 0),(.int .i64 0),(.int .i64 0),(.int .i64 0),(.int .i64 0),(.int .i64 0)])])
 (.seq (.seq (.ops [mC 13 (.int .i64 0)])
 (.block 0 (.loop (.seq (.seq (.ops [mT 16 13,fA 17 3 9,l1 18 17,lN 19 18,bN 20 .lss (.t 16) (.t 19)])
 (.cond (.t 20)
 .skip
 (.exit 0)))
 (.seq (.block 1 (.seq (.draw [lT 24 5 6,fA 25 3 9,l1 26 25,mT 27 13,iA 28 4 26 27,lT 29 4 28,lT 30 2 11,cL 31 189 [(.t 24),(.t 29),(.t 30)],mT 23 31,
 o 32 (.ext 0 (.t 23)),o 33 (.ext 1 (.t 23)),mT 14 32,mT 15 33]
 [])
 (.seq (.ops [mT 34 15])
 (.cond (.t 34)
 (.seq (.draw [lT 35 5 6,mT 36 1,mT 37 2,fA 38 2 9,l1 39 38,mT 40 13,bN 41 .add (cI 1) (.t 40),iA 42 1 39 41,l1 43 42,mT 44 4,o 45 (.append 2 (.c (.cl [])) (.t 44)),
 mT 46 14,o 47 (.append 2 (.t 45) (.t 46)),cL 48 131 [(.t 35),(.t 36),(.t 37),(.t 43),(.t 47)],sT 11 12 48]
 [(0,10),(4,10),(7,10),(8,10),(0,12),(4,12),(7,12),(8,12)])
 .ret)
 .skip))))
 (.ops [mT 21 13,bN 22 .add (.t 21) (cI 1),mT 13 22]))))))
 (.seq (.ops [lT 49 5 6,mT 50 1,cL 51 155 [(.t 49),(.t 50),(cI 3)],sT 11 12 51])
 .ret)))}
def aSq :aM:={np:=6,res:=[.cell 12 true 11],keep:=false,body:=
 (.seq (.ops [bX 6 4 0,bX 7 5 1,
 o 12 (.alloc [(.cl []),(.cl []),(.cl []),(.cl []),(.int .i64 0),(.int .i64 0),(.int .i64 0),(.int .i64 0),(.int .i64 0),(.int .i64 0),(.int .i64 0)])])
 (.seq (.ops [mT 16 3,lN 17 16,bN 18 .sub (.t 17) (cI 1),mT 13 18])
 (.seq (.block 0 (.loop (.seq (.seq (.draw [mT 19 13,bN 20 .geq (.t 19) (cI 0),mT 21 20,gF 22 21 true 0 6,g1 23 21 true 22,gM 24 21 true 3,gM 25 21 true 13,
 og 26 21 true (.ia 3 (.t 24) (.t 25)),gF 27 21 true 0 26,g1 28 21 true 27,og 29 21 true (.ia 4 (.t 23) (.t 28)),gF 30 21 true 0 29,g1 31 21 true 30,
 gB 32 21 true .neq (.t 31) (cI 26),pA 33 21 32]
 [])
 (.cond (.t 33)
 .skip
 (.exit 0)))
 (.block 1 (.ops [mT 34 13,bN 35 .sub (.t 34) (cI 1),mT 13 35])))))
 (.seq (.seq (.ops [mT 36 13,bN 37 .lss (.t 36) (cI 0)])
 (.cond (.t 37)
 (.seq (.ops [lT 38 5 7,mT 39 2,cL 40 155 [(.t 38),(.t 39),(cI 3)],sT 11 12 40])
 .ret)
 .skip))
 (.seq (.seq (.ops [fA 41 0 7,l1 42 41,lN 43 42,bN 44 .geq (.t 43) (cI 120)])
 (.cond (.t 44)
 (.seq (.ops [lT 45 5 7,mT 46 2,cL 47 155 [(.t 45),(.t 46),(cI 4)],sT 11 12 47])
 .ret)
 .skip))
 (.seq (.ops [lT 48 5 7,o 14 (.alloc [(.cl []),(.cl []),(.cl []),(.cl []),(.int .i64 0)]),sT 5 14 48])
 (.seq (.ops [lT 49 5 7,o 50 (.icall (.f 154) [(.t 49)]),sT 5 7 50])
 (.seq (.draw [fA 51 0 7,l1 52 51,mT 53 3,mT 54 13,o 55 (.slice false 3 (.t 53) (some (.t 54)) none none),o 56 (.append 3 (.c (.cl [])) (.t 55)),
 o 57 (.build [(.int .i64 0),(.int .i64 0),(.cl []),(.cl [])] [(0,1,(cI 5)),(3,1,(.t 56))]),
 o 58 (.bslice 1 4 [(.int .i64 0),(.int .i64 0),(.cl []),(.cl [])] [(0,(.t 57))]),o 59 (.append 4 (.t 52) (.t 58)),fA 60 0 7,sT 1 60 59]
 [(1,5),(1,7)])
 (.seq (.draw [lT 61 5 7,mT 62 2,mT 63 3,mT 64 13,bN 65 .add (.t 64) (cI 1),o 66 (.slice false 3 (.t 63) none (some (.t 65)) none),mT 67 4,mT 68 5,fA 69 0 7,l1 70 69,
 lN 71 70,bN 72 .sub (.t 71) (cI 1),cL 73 103 [(.t 72)],cL 74 129 [(.t 68),(.t 73)],cL 75 131 [(.t 61),(.t 62),(.t 66),(.t 67),(.t 74)],
 o 15 (.alloc [(.cl []),(.cl []),(.cl []),(.cl []),(.int .i64 0),(.int .i64 0),(.int .i64 0),(.int .i64 0),(.int .i64 0),(.int .i64 0),(.int .i64 0)]),sT 11 15 75]
 [(0,12),(5,12),(0,13),(5,13),(0,15),(5,15),(9,15),(10,15),(12,15),(13,15),(14,15)])
 (.seq (.seq (.ops [fA 76 5 15,l1 77 76,bN 78 .eql (.t 77) (cI 1)])
 (.cond (.t 78)
 (.seq (.ops [lT 79 5 14,mT 80 2,fA 81 6 15,fA 82 2 81,l1 83 82,cL 84 155 [(.t 79),(.t 80),(.t 83)],sT 11 12 84])
 .ret)
 .skip))
 (.seq (.ops [lT 85 11 15,sT 11 12 85])
 .ret)))))))))))}
def aF7 :aM:={np:=5,res:=[.cell 10 true 11],keep:=false,body:=
 (.seq (.ops [bX 5 5 0,
 o 10 (.alloc [(.cl []),(.cl []),(.cl []),(.cl []),(.int .i64 0),(.int .i64 0),(.int .i64 0),(.int .i64 0),(.int .i64 0),(.int .i64 0),(.int .i64 0)])])
 (.seq (.seq (.ops [mT 13 3,bN 14 .eql (.t 13) (cI 16)])
 (.cond (.t 14)
 (.seq (.draw [lT 15 5 5,mT 16 1,mT 17 2,mT 18 4,o 19 (.ia 2 (.t 18) (cI 0)),lT 20 2 19,o 21 (.bslice 1 2 [(.int .i64 0),(.int .i64 0)] [(0,(.t 20))]),
 o 22 (.build [(.int .i64 0),(.int .i64 0),(.cl []),(.cl [])] [(0,1,(cI 3)),(2,1,(.t 21))]),cL 23 159 [(.t 15),(.t 16),(.t 17),(.t 22)],mT 24 1,mT 25 3,mT 26 4,
 o 27 (.ia 2 (.t 26) (cI 0)),lT 28 2 27,cL 29 167 [(.t 23),(.t 24),(.t 25),(cI 0),(.t 28)],sT 11 10 29]
 [(0,6),(6,12),(8,12),(6,13),(8,13)])
 .ret)
 .skip))
 (.seq (.draw [lT 31 5 5,mT 32 4,o 33 (.ia 2 (.t 32) (cI 0)),lT 34 2 33,cL 35 187 [(.t 31),(.t 34),(cI 3)],mT 30 35,o 36 (.ext 0 (.t 30)),
 o 37 (.ext 1 (.t 30)),o 11 (.alloc [(.int .i64 0),(.int .i64 0),(.cl []),(.cl [])]),sT 4 11 36,mT 12 37]
 [(0,8),(2,8),(3,8),(4,8)])
 (.seq (.seq (.ops [mT 38 12,nT 39 38])
 (.cond (.t 39)
 (.seq (.ops [lT 40 5 5,mT 41 1,cL 42 155 [(.t 40),(.t 41),(cI 2)],sT 11 10 42])
 .ret)
 .skip))
 (.seq (.seq (.ops [mT 43 3,bN 44 .eql (.t 43) (cI 17)])
 (.cond (.t 44)
 (.seq (.draw [lT 45 5 5,mT 46 1,mT 47 2,fA 48 2 11,l1 49 48,o 50 (.ia 2 (.t 49) (cI 0)),lT 51 2 50,cL 52 156 [(.t 45),(.t 46),(.t 47),(.t 51)],mT 53 1,mT 54 3,
 fA 55 2 11,l1 56 55,o 57 (.ia 2 (.t 56) (cI 0)),lT 58 2 57,cL 59 167 [(.t 52),(.t 53),(.t 54),(cI 0),(.t 58)],sT 11 10 59]
 [(7,11),(7,12),(7,13)])
 .ret)
 .skip))
 (.seq (.draw [lT 60 5 5,mT 61 4,o 62 (.ia 2 (.t 61) (cI 0)),fA 63 1 62,l1 64 63,mT 65 4,o 66 (.ia 2 (.t 65) (cI 1)),lT 67 2 66,
 o 68 (.bslice 1 2 [(.int .i64 0),(.int .i64 0)] [(0,(.t 67))]),o 69 (.build [(.int .i64 0),(.int .i64 0),(.cl []),(.cl [])] [(0,1,(cI 3)),(2,1,(.t 68))]),
 cL 70 127 [(.t 60),(.t 64),(.t 69)],sT 5 5 70]
 [(0,8),(2,8),(4,8)])
 (.seq (.draw [lT 71 5 5,mT 72 1,mT 73 2,cL 74 158 [],cL 75 156 [(.t 71),(.t 72),(.t 73),(.t 74)],mT 76 1,mT 77 3,mT 78 4,o 79 (.ia 2 (.t 78) (cI 1)),
 lT 80 2 79,cL 81 167 [(.t 75),(.t 76),(.t 77),(cI 0),(.t 80)],sT 11 10 81]
 [(0,3),(3,8),(4,8),(3,9),(4,9)])
 .ret)))))))}
def aSr :aM:={np:=5,res:=[.cell 10 true 11],keep:=false,body:=
 (.seq (.ops [bX 5 4 0,bX 6 5 1,bX 9 2 4,
 o 10 (.alloc [(.cl []),(.cl []),(.cl []),(.cl []),(.int .i64 0),(.int .i64 0),(.int .i64 0),(.int .i64 0),(.int .i64 0),(.int .i64 0),(.int .i64 0)])])
 (.seq (.ops [o 17 (.build [(.int .i64 0),(.int .i64 0),(.cl []),(.cl [])] [(0,1,(cI 6))]),o 11 (.alloc [(.int .i64 0),(.int .i64 0),(.cl []),(.cl [])]),sT 4 11 17])
 (.seq (.seq (.ops [lT 19 5 6,lT 20 2 9,cL 21 187 [(.t 19),(.t 20),(cI 5)],mT 18 21,o 22 (.ext 0 (.t 18)),o 23 (.ext 1 (.t 18)),
 o 12 (.alloc [(.int .i64 0),(.int .i64 0),(.cl []),(.cl [])]),sT 4 12 22,mT 13 23])
 (.seq (.ops [mT 24 13])
 (.cond (.t 24)
 (.draw [fA 25 3 12,l1 26 25,cL 27 158 [],o 28 (.bslice 1 2 [(.int .i64 0),(.int .i64 0)] [(0,(.t 27))]),fA 29 3 11,sT 1 29 26,fA 30 2 11,sT 1 30 28]
 [(1,2),(1,3),(3,5)])
 (.seq (.draw [lT 32 4 5,lT 33 5 6,lT 34 2 9,cL 35 158 [],cL 36 188 [(.t 32),(.t 33),(.t 34),(.t 35)],mT 31 36,o 37 (.ext 0 (.t 31)),
 o 38 (.ext 1 (.t 31)),o 14 (.alloc [(.int .i64 0),(.cl []),(.cl [])]),sT 3 14 37,mT 15 38]
 [(0,3),(1,3),(2,3),(0,8),(1,8),(2,8),(3,8),(4,8)])
 (.seq (.seq (.ops [mT 39 15,nT 40 39])
 (.cond (.t 40)
 (.seq (.ops [lT 41 5 6,mT 42 2,cL 43 155 [(.t 41),(.t 42),(cI 2)],sT 11 10 43])
 .ret)
 .skip))
 (.seq (.seq (.ops [fA 44 1 14,l1 45 44,lN 46 45,bN 47 .gtr (.t 46) (cI 30)])
 (.cond (.t 47)
 (.seq (.ops [lT 48 5 6,mT 49 2,cL 50 155 [(.t 48),(.t 49),(cI 4)],sT 11 10 50])
 .ret)
 .skip))
 (.ops [lT 51 3 14,o 52 (.bslice 1 3 [(.int .i64 0),(.cl []),(.cl [])] [(0,(.t 51))]),fA 53 3 11,sT 1 53 52])))))))
 (.seq (.ops [lT 54 5 6,mT 55 2,mT 56 3,lT 57 4 11,o 58 (.icall (.f 159) [(.t 54),(.t 55),(.t 56),(.t 57)]),
 o 16 (.alloc [(.cl []),(.cl []),(.cl []),(.cl []),(.int .i64 0),(.int .i64 0),(.int .i64 0),(.int .i64 0),(.int .i64 0),(.int .i64 0),(.int .i64 0)]),sT 11 16 58])
 (.seq (.seq (.ops [fA 59 5 16,l1 60 59,bN 61 .neq (.t 60) (cI 1)])
 (.cond (.t 61)
 (.ops [fA 62 0 16,fA 63 1 62,l1 64 63,fA 65 0 16,fA 66 0 65,l1 67 66,lN 68 67,bN 69 .sub (.t 68) (cI 1),o 70 (.bslice 1 1 [(.int .i64 0)] [(0,(.t 69))]),
 o 71 (.append 1 (.t 64) (.t 70)),fA 72 0 16,fA 73 1 72,sT 1 73 71])
 .skip))
 (.seq (.draw [lT 74 11 16,mT 75 2,cL 76 158 [],cL 77 167 [(.t 74),(.t 75),(cI 19),(cI 0),(.t 76)],sT 11 10 77]
 [(0,2)])
 .ret))))))}
def aF8 :aM:={np:=4,res:=[.cell 8 true 11],keep:=false,body:=
 (.seq (.ops [bX 4 5 0,bX 7 2 3,
 o 8 (.alloc [(.cl []),(.cl []),(.cl []),(.cl []),(.int .i64 0),(.int .i64 0),(.int .i64 0),(.int .i64 0),(.int .i64 0),(.int .i64 0),(.int .i64 0)])])
 (.seq (.ops [lT 12 5 4,lT 13 2 7,cL 14 187 [(.t 12),(.t 13),(cI 6)],mT 11 14,o 15 (.ext 0 (.t 11)),o 16 (.ext 1 (.t 11)),
 o 9 (.alloc [(.int .i64 0),(.int .i64 0),(.cl []),(.cl [])]),sT 4 9 15,mT 10 16])
 (.seq (.seq (.ops [mT 17 10,nT 18 17])
 (.cond (.t 18)
 (.seq (.ops [lT 19 5 4,mT 20 1,cL 21 155 [(.t 19),(.t 20),(cI 2)],sT 11 8 21])
 .ret)
 .skip))
 (.seq (.seq (.ops [fA 22 1 9,l1 23 22,bN 24 .eql (.t 23) (cI 0)])
 (.cond (.t 24)
 (.seq (.ops [lT 25 5 4,
 o 26 (.build [(.cl []),(.cl []),(.cl []),(.cl []),(.int .i64 0),(.int .i64 0),(.int .i64 0),(.int .i64 0),(.int .i64 0),(.int .i64 0),(.int .i64 0)] [(0,5,(.t 25)),(5,1,(cI 2))]),
 sT 11 8 26])
 .ret)
 .skip))
 (.seq (.seq (.ops [fA 27 1 9,l1 28 27,bN 29 .neq (.t 28) (cI 1)])
 (.cond (.t 29)
 (.seq (.ops [lT 30 5 4,mT 31 1,fA 32 1 9,l1 33 32,cL 34 155 [(.t 30),(.t 31),(.t 33)],sT 11 8 34])
 .ret)
 .skip))
 (.seq (.draw [lT 35 5 4,mT 36 1,mT 37 2,fA 38 2 9,l1 39 38,o 40 (.ia 2 (.t 39) (cI 0)),lT 41 2 40,cL 42 156 [(.t 35),(.t 36),(.t 37),(.t 41)],mT 43 1,fA 44 2 9,
 l1 45 44,o 46 (.ia 2 (.t 45) (cI 0)),lT 47 2 46,cL 48 167 [(.t 42),(.t 43),(cI 20),(cI 0),(.t 47)],sT 11 8 48]
 [(7,10),(7,11),(7,12)])
 .ret))))))}
def aM5 :aM:={np:=5,res:=[.cell 10 true 11],keep:=false,body:=
 (.seq (.ops [bX 5 11 0,bX 9 2 4,
 o 10 (.alloc [(.cl []),(.cl []),(.cl []),(.cl []),(.int .i64 0),(.int .i64 0),(.int .i64 0),(.int .i64 0),(.int .i64 0),(.int .i64 0),(.int .i64 0)])])
 (.seq (.seq (.ops [fA 11 5 5,l1 12 11,bN 13 .eql (.t 12) (cI 1)])
 (.cond (.t 13)
 (.seq (.ops [lT 14 11 5,sT 11 10 14])
 .ret)
 .skip))
 (.seq (.draw [fA 15 0 5,lT 16 5 15,mT 17 1,mT 18 2,mT 19 3,lT 20 2 9,cL 21 128 [(.t 20)],
 o 22 (.build [(.int .i64 0),(.int .i64 0),(.int .i64 0),(.int .i64 0),(.int .i64 0)] [(0,1,(.t 17)),(1,1,(.t 18)),(2,1,(.t 19)),(3,2,(.t 21))]),
 o 23 (.build [(.cl []),(.cl []),(.cl []),(.cl []),(.int .i64 0),(.int .i64 0),(.int .i64 0),(.int .i64 0),(.int .i64 0),(.int .i64 0),(.int .i64 0)] [(0,5,(.t 16)),(5,1,(cI 1)),(6,5,(.t 22))]),
 sT 11 10 23]
 [(1,6)])
 .ret)))}
def aD4 :aM:={np:=5,res:=[.cell 10 true 11],keep:=false,body:=
 (.seq (.ops [bX 5 5 0,
 o 10 (.alloc [(.cl []),(.cl []),(.cl []),(.cl []),(.int .i64 0),(.int .i64 0),(.int .i64 0),(.int .i64 0),(.int .i64 0),(.int .i64 0),(.int .i64 0)])])
 (.seq (.draw [lT 14 5 5,mT 15 4,o 16 (.ia 2 (.t 15) (cI 0)),lT 17 2 16,cL 18 187 [(.t 14),(.t 17),(cI 4)],mT 13 18,o 19 (.ext 0 (.t 13)),
 o 20 (.ext 1 (.t 13)),o 11 (.alloc [(.int .i64 0),(.int .i64 0),(.cl []),(.cl [])]),sT 4 11 19,mT 12 20]
 [(0,8),(2,8),(3,8),(4,8)])
 (.seq (.seq (.ops [mT 21 12,nT 22 21])
 (.cond (.t 22)
 (.seq (.ops [lT 23 5 5,mT 24 1,cL 25 155 [(.t 23),(.t 24),(cI 2)],sT 11 10 25])
 .ret)
 .skip))
 (.seq (.seq (.ops [mT 26 3,bN 27 .eql (.t 26) (cI 22)])
 (.cond (.t 27)
 (.seq (.seq (.ops [fA 28 2 11,l1 29 28,lN 30 29,bN 31 .geq (.t 30) (cI 4)])
 (.cond (.t 31)
 (.seq (.ops [lT 32 5 5,
 o 33 (.build [(.cl []),(.cl []),(.cl []),(.cl []),(.int .i64 0),(.int .i64 0),(.int .i64 0),(.int .i64 0),(.int .i64 0),(.int .i64 0),(.int .i64 0)] [(0,5,(.t 32)),(5,1,(cI 2))]),
 sT 11 10 33])
 .ret)
 .skip))
 (.seq (.draw [lT 34 5 5,mT 35 4,o 36 (.ia 2 (.t 35) (cI 0)),fA 37 1 36,l1 38 37,fA 39 2 11,l1 40 39,mT 41 4,o 42 (.ia 2 (.t 41) (cI 1)),lT 43 2 42,
 cL 44 129 [(.t 40),(.t 43)],o 45 (.build [(.int .i64 0),(.int .i64 0),(.cl []),(.cl [])] [(0,1,(cI 4)),(2,1,(.t 44))]),
 cL 46 127 [(.t 34),(.t 38),(.t 45)],sT 5 5 46]
 [(0,10),(2,10),(4,10)])
 (.seq (.draw [lT 47 5 5,mT 48 1,mT 49 2,cL 50 158 [],cL 51 156 [(.t 47),(.t 48),(.t 49),(.t 50)],mT 52 1,mT 53 3,mT 54 4,o 55 (.ia 2 (.t 54) (cI 1)),
 lT 56 2 55,cL 57 167 [(.t 51),(.t 52),(.t 53),(cI 0),(.t 56)],sT 11 10 57]
 [(0,3),(3,8),(4,8),(3,9),(4,9)])
 .ret)))
 .skip))
 (.seq (.seq (.ops [fA 58 2 11,l1 59 58,lN 60 59,bN 61 .eql (.t 60) (cI 0)])
 (.cond (.t 61)
 (.seq (.ops [lT 62 5 5,
 o 63 (.build [(.cl []),(.cl []),(.cl []),(.cl []),(.int .i64 0),(.int .i64 0),(.int .i64 0),(.int .i64 0),(.int .i64 0),(.int .i64 0),(.int .i64 0)] [(0,5,(.t 62)),(5,1,(cI 2))]),
 sT 11 10 63])
 .ret)
 .skip))
 (.seq (.draw [lT 64 5 5,mT 65 4,o 66 (.ia 2 (.t 65) (cI 0)),fA 67 1 66,l1 68 67,fA 69 2 11,l1 70 69,o 71 (.slice false 2 (.t 70) (some (cI 1)) none none),
 o 72 (.append 2 (.c (.cl [])) (.t 71)),o 73 (.build [(.int .i64 0),(.int .i64 0),(.cl []),(.cl [])] [(0,1,(cI 4)),(2,1,(.t 72))]),
 cL 74 127 [(.t 64),(.t 68),(.t 73)],sT 5 5 74]
 [(0,8),(2,8),(4,8)])
 (.seq (.draw [lT 75 5 5,mT 76 1,mT 77 2,fA 78 2 11,l1 79 78,o 80 (.ia 2 (.t 79) (cI 0)),lT 81 2 80,cL 82 156 [(.t 75),(.t 76),(.t 77),(.t 81)],mT 83 1,mT 84 3,
 fA 85 2 11,l1 86 85,o 87 (.ia 2 (.t 86) (cI 0)),lT 88 2 87,cL 89 167 [(.t 82),(.t 83),(.t 84),(cI 0),(.t 88)],sT 11 10 89]
 [(7,11),(7,12),(7,13)])
 .ret)))))))}
def aSs :aM:={np:=5,res:=[.cell 10 true 11],keep:=false,body:=
 (.seq (.ops [bX 5 5 0,bX 8 4 3,
 o 10 (.alloc [(.cl []),(.cl []),(.cl []),(.cl []),(.int .i64 0),(.int .i64 0),(.int .i64 0),(.int .i64 0),(.int .i64 0),(.int .i64 0),(.int .i64 0)])])
 (.seq (.ops [lT 12 5 5,o 13 (.icall (.f 154) [(.t 12)]),sT 5 5 13])
 (.seq (.seq (.ops [fA 14 0 8,l1 15 14,bN 16 .eql (.t 15) (cI 25)])
 (.cond (.t 16)
 (.seq (.seq (.ops [fA 17 3 5,l1 18 17,lN 19 18,bN 20 .eql (.t 19) (cI 0)])
 (.cond (.t 20)
 (.seq (.ops [lT 21 5 5,
 o 22 (.build [(.cl []),(.cl []),(.cl []),(.cl []),(.int .i64 0),(.int .i64 0),(.int .i64 0),(.int .i64 0),(.int .i64 0),(.int .i64 0),(.int .i64 0)] [(0,5,(.t 21)),(5,1,(cI 2))]),
 sT 11 10 22])
 .ret)
 .skip))
 (.seq (.ops [fA 23 3 5,l1 24 23,o 25 (.ia 1 (.t 24) (cI 0)),l1 26 25,cL 27 105 [(.t 26)],o 11 (.alloc [(.int .i64 0),(.int .i64 0)]),sT 2 11 27])
 (.seq (.seq (.ops [fA 28 4 5,l1 29 28,bN 30 .geq (.t 29) (cI 1000000000)])
 (.cond (.t 30)
 (.seq (.ops [lT 31 5 5,mT 32 1,cL 33 155 [(.t 31),(.t 32),(cI 4)],sT 11 10 33])
 .ret)
 .skip))
 (.seq (.draw [fA 34 3 5,l1 35 34,o 36 (.slice false 1 (.t 35) (some (cI 1)) none none),o 37 (.append 1 (.c (.cl [])) (.t 36)),fA 38 4 5,l1 39 38,
 bN 40 .add (.t 39) (cI 1),fA 41 3 5,sT 1 41 37,fA 42 4 5,sT 1 42 40]
 [(3,5)])
 (.seq (.draw [lT 43 5 5,mT 44 1,mT 45 2,lT 46 2 11,cL 47 156 [(.t 43),(.t 44),(.t 45),(.t 46)],mT 48 1,fA 49 0 8,l1 50 49,lT 51 2 11,
 cL 52 167 [(.t 47),(.t 48),(.t 50),(cI 0),(.t 51)],sT 11 10 52]
 [(4,7),(4,8)])
 .ret)))))
 .skip))
 (.seq (.seq (.ops [mT 53 4,o 54 (.ia 2 (.t 53) (cI 0)),fA 55 0 54,l1 56 55,bN 57 .neq (.t 56) (cI 1)])
 (.cond (.t 57)
 (.seq (.ops [lT 58 5 5,mT 59 1,cL 60 155 [(.t 58),(.t 59),(cI 2)],sT 11 10 60])
 .ret)
 .skip))
 (.seq (.seq (.ops [fA 61 2 5,l1 62 61,lN 63 62,bN 64 .geq (.t 63) (cI 100)])
 (.cond (.t 64)
 (.seq (.ops [lT 65 5 5,mT 66 1,cL 67 155 [(.t 65),(.t 66),(cI 4)],sT 11 10 67])
 .ret)
 .skip))
 (.seq (.draw [fA 68 2 5,l1 69 68,fA 70 1 8,l1 71 70,mT 72 4,o 73 (.ia 2 (.t 72) (cI 0)),fA 74 1 73,l1 75 74,
 o 76 (.build [(.int .i64 0),(.int .i64 0)] [(0,1,(.t 71)),(1,1,(.t 75))]),o 77 (.bslice 1 2 [(.int .i64 0),(.int .i64 0)] [(0,(.t 76))]),
 o 78 (.append 2 (.t 69) (.t 77)),fA 79 2 5,sT 1 79 78]
 [(1,9)])
 (.seq (.draw [lT 80 5 5,mT 81 1,mT 82 2,cL 83 158 [],cL 84 156 [(.t 80),(.t 81),(.t 82),(.t 83)],mT 85 1,fA 86 0 8,l1 87 86,fA 88 1 8,l1 89 88,mT 90 4,
 o 91 (.ia 2 (.t 90) (cI 0)),lT 92 2 91,cL 93 167 [(.t 84),(.t 85),(.t 87),(.t 89),(.t 92)],sT 11 10 93]
 [(0,3),(3,7),(4,7),(3,9),(4,9),(3,11),(4,11),(3,12),(4,12)])
 .ret)))))))}
def aSt :aM:={np:=1,res:=[.tmp 2],keep:=false,body:=
 (.seq (.ops [bX 1 4 0,mC 2 (.bool false)])
 (.seq (.ops [fA 11 0 1,fA 12 0 11,l1 13 12,lN 14 13,mT 3 14])
 (.seq (.seq (.ops [mT 15 3,bN 16 .gtr (.t 15) (cI 300),mT 17 16,gF 18 17 false 0 1,gF 19 17 false 1 18,g1 20 17 false 19,gN 21 17 false 20,
 gB 22 17 false .lss (.t 21) (cI 1),pO 23 17 22,mT 24 23,gF 25 24 false 0 1,gF 26 24 false 1 25,g1 27 24 false 26,gN 28 24 false 27,gM 29 24 false 3,
 gB 30 24 false .gtr (.t 28) (.t 29),pO 31 24 30,mT 32 31,gF 33 32 false 0 1,gF 34 32 false 3 33,g1 35 32 false 34,gN 36 32 false 35,
 gB 37 32 false .gtr (.t 36) (cI 20),pO 38 32 37,mT 39 38,gF 40 39 false 0 1,gF 41 39 false 2 40,g1 42 39 false 41,gF 43 39 false 0 1,gF 44 39 false 1 43,
 g1 45 39 false 44,gN 46 39 false 45,gB 47 39 false .sub (.t 46) (cI 1),gL 48 39 false 198 [(.t 42),(cI 0),(.t 47)],og 49 39 false (.un .not (.t 48)),
 pO 50 39 49])
 (.cond (.t 50)
 (.seq (.ops [mC 2 (.bool false)])
 .ret)
 .skip))
 (.seq (.seq (.ops [fA 51 0 1,fA 52 3 51,l1 53 52,cL 54 199 [(.t 53),(.f 200)],nT 55 54,mT 56 55,gF 57 56 false 0 1,gF 58 56 false 3 57,
 g1 59 56 false 58,gL 60 56 false 202 [(.t 59),(.f 203)],gL 61 56 false 201 [(.t 60)],
 og 62 56 false (.un .not (.t 61)),pO 63 56 62,mT 64 63,gF 65 64 false 0 1,gF 66 64 false 0 65,g1 67 64 false 66,gT 68 64 false 4 1,
 og 69 64 false (.mkfn 205 [(.t 68)] []),gL 70 64 false 204 [(.t 67),(.t 69)],og 71 64 false (.un .not (.t 70)),pO 72 64 71])
 (.cond (.t 72)
 (.seq (.ops [mC 2 (.bool false)])
 .ret)
 .skip))
 (.seq (.ops [mT 73 3,o 74 (.mklen 1 [(.int .i64 0)] (.t 73) (.t 73)),mT 4 74])
 (.seq (.seq (.ops [fA 75 0 1,fA 76 1 75,l1 77 76,lN 78 77,mC 79 (.int .i64 0)])
 (.block 0 (.loop (.seq (.ops [bN 80 .lss (.t 79) (.t 78)])
 (.seq (.cond (.t 80)
 .skip
 (.exit 0))
 (.seq (.block 1 (.seq (.ops [iA 81 1 77 79,l1 82 81,mT 6 82])
 (.seq (.seq (.ops [mT 83 6,mT 84 3,bN 85 .sub (.t 84) (cI 1),cL 86 198 [(.t 83),(cI 0),(.t 85)],nT 87 86])
 (.cond (.t 87)
 (.seq (.ops [mC 2 (.bool false)])
 .ret)
 .skip))
 (.ops [mT 88 4,mT 89 6,iA 90 1 88 89,l1 91 90,bN 92 .add (.t 91) (cI 1),iA 93 1 88 89,sT 1 93 92]))))
 (.ops [bN 94 .add (.t 79) (cI 1),mT 79 94])))))))
 (.seq (.seq (.ops [fA 95 0 1,fA 96 0 95,l1 97 96,lN 98 97,mC 99 (.int .i64 0)])
 (.block 2 (.loop (.seq (.ops [bN 100 .lss (.t 99) (.t 98)])
 (.seq (.cond (.t 100)
 .skip
 (.exit 2))
 (.seq (.block 3 (.seq (.ops [mT 101 99,iA 102 4 97 99,lT 103 4 102,o 8 (.alloc [(.int .i64 0),(.int .i64 0),(.cl []),(.cl [])]),mT 7 101,sT 4 8 103])
 (.seq (.ops [fA 104 2 8,l1 105 104,lN 106 105,mC 107 (.int .i64 0)])
 (.block 4 (.loop (.seq (.ops [bN 108 .lss (.t 107) (.t 106)])
 (.seq (.cond (.t 108)
 .skip
 (.exit 4))
 (.seq (.block 5 (.seq (.ops [iA 109 1 105 107,l1 110 109,mT 10 110])
 (.seq (.seq (.ops [mT 111 10,mT 112 7,bN 113 .add (.t 112) (cI 1),mT 114 3,bN 115 .sub (.t 114) (cI 1),cL 116 198 [(.t 111),(.t 113),(.t 115)],nT 117 116])
 (.cond (.t 117)
 (.seq (.ops [mC 2 (.bool false)])
 .ret)
 .skip))
 (.ops [mT 118 4,mT 119 10,iA 120 1 118 119,l1 121 120,bN 122 .add (.t 121) (cI 1),iA 123 1 118 119,sT 1 123 122]))))
 (.ops [bN 124 .add (.t 107) (cI 1),mT 107 124])))))))))
 (.ops [bN 125 .add (.t 99) (cI 1),mT 99 125])))))))
 (.seq (.ops [mT 126 4,cL 127 206 [(.t 126),(.f 207)],mT 2 127])
 .ret))))))))}
def aSu :aM:={np:=2,res:=[.tmp 4],keep:=false,body:=
 (.seq (.ops [bX 3 1 1,mC 4 (.bool false)])
 (.seq (.ops [mT 5 0,o 6 (.mkfn 209 [] [(.t 3)]),cL 7 208 [(.t 5),(.t 6)],nT 8 7,mT 4 8])
 .ret))}
def aSv :aM:={np:=2,res:=[.tmp 4],keep:=false,body:=
 (.seq (.ops [bX 3 4 1,mC 4 (.bool false)])
 (.seq (.seq (.ops [fA 6 2 3,l1 7 6,mT 8 0,o 9 (.mkfn 211 [(.t 8)] []),cL 10 210 [(.t 7),(.t 9)],nT 11 10])
 (.cond (.t 11)
 (.seq (.ops [mC 4 (.bool false)])
 .ret)
 .skip))
 (.seq (.ops [fA 12 3 3,l1 13 12,lN 14 13,bN 15 .eql (.t 14) (cI 0),mT 5 15])
 (.seq (.seq (.ops [fA 16 0 3,l1 17 16])
 (.block 0 (.seq (.ops [bN 19 .eql (.t 17) (cI 1),mT 18 19])
 (.cond (.t 18)
 (.seq (.draw [mT 20 5,mT 21 20,gF 22 21 true 1 3,g1 23 21 true 22,gM 24 21 true 0,og 25 21 true (.nilck (.t 24)),gF 26 21 true 0 25,gF 27 21 true 3 26,
 g1 28 21 true 27,gN 29 21 true 28,gB 30 21 true .sub (.t 29) (cI 1),gL 31 21 true 181 [(.t 23),(cI 0),(.t 30)],pA 32 21 31,mT 33 32,gF 34 33 true 2 3,
 g1 35 33 true 34,gN 36 33 true 35,gM 37 33 true 0,og 38 33 true (.nilck (.t 37)),gF 39 33 true 0 38,gF 40 33 true 3 39,g1 41 33 true 40,gF 42 33 true 1 3,
 g1 43 33 true 42,og 44 33 true (.ia 2 (.t 41) (.t 43)),gF 45 33 true 1 44,g1 46 33 true 45,gB 47 33 true .eql (.t 36) (.t 46),pA 48 33 47,mT 4 48]
 [])
 .ret)
 (.seq (.ops [bN 50 .eql (.t 17) (cI 2),mT 49 50])
 (.cond (.t 49)
 (.seq (.draw [mT 51 5,mT 52 51,gF 53 52 true 1 3,g1 54 52 true 53,gM 55 52 true 0,og 56 52 true (.nilck (.t 55)),gF 57 52 true 0 56,gF 58 52 true 0 57,
 g1 59 52 true 58,gN 60 52 true 59,gB 61 52 true .sub (.t 60) (cI 1),gL 62 52 true 181 [(.t 54),(cI 0),(.t 61)],pA 63 52 62,mT 64 63,gM 65 64 true 0,
 og 66 64 true (.nilck (.t 65)),gF 67 64 true 0 66,gF 68 64 true 0 67,g1 69 64 true 68,gF 70 64 true 1 3,g1 71 64 true 70,og 72 64 true (.ia 4 (.t 69) (.t 71)),
 gF 73 64 true 0 72,g1 74 64 true 73,gB 75 64 true .eql (.t 74) (cI 5),pA 76 64 75,mT 77 76,gF 78 77 true 2 3,g1 79 77 true 78,gN 80 77 true 79,
 gB 81 77 true .leq (.t 80) (cI 30),pA 82 77 81,mT 4 82]
 [])
 .ret)
 (.seq (.ops [bN 84 .eql (.t 17) (cI 3),mT 83 84])
 (.cond (.t 83)
 (.seq (.ops [mT 85 5,mT 86 85,gF 87 86 true 1 3,g1 88 86 true 87,gB 89 86 true .eql (.t 88) (cI 0),pA 90 86 89,mT 91 90,gF 92 91 true 2 3,g1 93 91 true 92,
 gN 94 91 true 93,gB 95 91 true .eql (.t 94) (cI 1),pA 96 91 95,mT 4 96])
 .ret)
 (.seq (.ops [bN 98 .eql (.t 17) (cI 4),mT 97 98])
 (.cond (.t 97)
 (.seq (.ops [mT 99 5,mT 100 99,gF 101 100 true 1 3,g1 102 100 true 101,gB 103 100 true .eql (.t 102) (cI 0),pA 104 100 103,mT 105 104,gF 106 105 true 2 3,
 g1 107 105 true 106,gN 108 105 true 107,gB 109 105 true .leq (.t 108) (cI 4),pA 110 105 109,mT 4 110])
 .ret)
 (.seq (.ops [bN 112 .eql (.t 17) (cI 5),mT 111 112])
 (.cond (.t 111)
 (.seq (.draw [fA 113 1 3,l1 114 113,bN 115 .eql (.t 114) (cI 0),mT 116 115,gF 117 116 true 2 3,g1 118 116 true 117,gN 119 116 true 118,
 gB 120 116 true .eql (.t 119) (cI 0),pA 121 116 120,mT 122 121,gF 123 122 true 3 3,g1 124 122 true 123,gN 125 122 true 124,gB 126 122 true .gtr (.t 125) (cI 0),
 pA 127 122 126,mT 128 127,gM 129 128 true 0,gF 130 128 true 3 3,g1 131 128 true 130,gL 132 128 true 212 [(.t 129),(.t 131),(cI 0)],pA 133 128 132,
 mT 134 133,gM 135 134 true 0,og 136 134 true (.nilck (.t 135)),gF 137 134 true 0 136,gF 138 134 true 0 137,g1 139 134 true 138,gF 140 134 true 3 3,g1 141 134 true 140,
 og 142 134 true (.ia 3 (.t 141) (cI 0)),gF 143 134 true 0 142,g1 144 134 true 143,og 145 134 true (.ia 4 (.t 139) (.t 144)),gF 146 134 true 0 145,g1 147 134 true 146,
 gB 148 134 true .eql (.t 147) (cI 26),pA 149 134 148,mT 4 149]
 [])
 .ret)
 (.seq (.ops [bN 151 .eql (.t 17) (cI 6),mT 150 151])
 (.cond (.t 150)
 (.seq (.ops [mT 152 0,lT 153 4 3,cL 154 213 [(.t 152),(.t 153)],mT 4 154])
 .ret)
 .skip))))))))))))))
 (.seq (.ops [mC 4 (.bool false)])
 .ret)))))}
def aSw :aM:={np:=1,res:=[.tmp 2],keep:=false,body:=
 (.seq (.ops [bX 1 1 0,mC 2 (.bool false)])
 (.seq (.ops [o 6 (.mkmap),o 3 (.alloc [.nilm]),sT 1 3 6])
 (.seq (.seq (.ops [l1 7 1,nK 8 7,fA 9 4 8,fA 10 1 9,l1 11 10,lN 12 11,mC 13 (.int .i64 0)])
 (.block 0 (.loop (.seq (.ops [bN 14 .lss (.t 13) (.t 12)])
 (.seq (.cond (.t 14)
 .skip
 (.exit 0))
 (.seq (.block 1 (.seq (.ops [iA 15 1 11 13,l1 16 15,mT 5 16])
 (.seq (.seq (.ops [mT 17 5,l1 18 1,nK 19 18,fA 20 4 19,fA 21 0 20,l1 22 21,lN 23 22,bN 24 .sub (.t 23) (cI 1),cL 25 181 [(.t 17),(cI 0),(.t 24)],nT 26 25,
 mT 27 26,g1 28 27 false 1,og 29 27 false (.nilck (.t 28)),gF 30 27 false 4 29,gF 31 27 false 0 30,g1 32 27 false 31,gM 33 27 false 5,
 og 34 27 false (.ia 4 (.t 32) (.t 33)),gF 35 27 false 0 34,g1 36 27 false 35,gB 37 27 false .neq (.t 36) (cI 6),pO 38 27 37,mT 39 38,g1 40 39 false 3,gM 41 39 false 5,
 og 42 39 false (.mget .num (.bool false) false (.t 40) (.t 41)),pO 43 39 42])
 (.cond (.t 43)
 (.seq (.ops [mC 2 (.bool false)])
 .ret)
 .skip))
 (.ops [l1 44 3,mT 45 5,on (.mput .num (.t 44) (.t 45) (cB true))]))))
 (.ops [bN 46 .add (.t 13) (cI 1),mT 13 46])))))))
 (.seq (.ops [l1 47 1,nK 48 47,fA 49 4 48,fA 50 0 49,l1 51 50,lN 52 51,cL 53 216 [(.t 52)],cL 54 215 [(.t 53)],
 o 55 (.mkfn 217 [] [(.t 3),(.t 1)]),cL 56 214 [(.t 54),(.t 55)],mT 2 56])
 .ret))))}
def aSx :aM:={np:=2,res:=[.tmp 4],keep:=false,body:=
 (.seq (.ops [bX 3 1 1,mC 4 (.bool false)])
 (.seq (.ops [mT 5 0,o 6 (.mkfn 219 [] [(.t 3)]),cL 7 218 [(.t 5),(.t 6)],nT 8 7,mT 4 8])
 .ret))}
def aSy :aM:={np:=1,res:=[.tmp 2],keep:=false,body:=
 (.seq (.ops [bX 1 2 0,mC 2 (.bool false)])
 (.seq (.ops [fA 3 0 1,l1 4 3,cL 5 181 [(.t 4),(cI 0),(cI 3)],mT 6 5,gF 7 6 true 1 1,g1 8 6 true 7,gL 9 6 true 182 [(.t 8)],pA 10 6 9,mT 2 10])
 .ret))}
def aSz :aM:={np:=3,res:=[.tmp 6],keep:=false,body:=
 (.seq (.ops [mC 6 (.bool false)])
 (.seq (.ops [mT 7 0,mT 8 1,bN 9 .geq (.t 7) (.t 8),mT 10 9,gM 11 10 true 0,gM 12 10 true 2,gB 13 10 true .leq (.t 11) (.t 12),pA 14 10 13,mT 6 14])
 .ret))}
def aS0 :aM:={np:=1,res:=[.tmp 2],keep:=false,body:=
 (.seq (.ops [mC 2 (.bool false)])
 (.seq (.ops [mT 3 0,cL 4 181 [(.t 3),(cI (-1000000000)),(cI 1000000000)],mT 2 4])
 .ret))}
def aS1 :aM:={np:=1,res:=[.tmp 2],keep:=false,body:=
 (.seq (.ops [mC 2 (.bool false)])
 (.seq (.ops [mT 3 0,lN 4 3,bN 5 .leq (.t 4) (cI 50),mT 6 5,gM 7 6 true 0,gL 8 6 true 214 [(.t 7),(.f 182)],pA 9 6 8,mT 2 9])
 .ret))}
def aS2 :aM:={np:=1,res:=[.tmp 2],keep:=false,body:=
 (.seq (.ops [mC 2 (.bool false)])
 (.seq (.seq (.ops [mC 3 (.int .i64 0)])
 (.block 0 (.loop (.seq (.seq (.ops [mT 4 3,mT 5 0,o 6 (.len .str (.t 5)),bN 7 .lss (.t 4) (.t 6)])
 (.cond (.t 7)
 .skip
 (.exit 0)))
 (.seq (.block 1 (.seq (.ops [mT 10 0,mT 11 3,o 12 (.ixs (.t 10) (.t 11)),bN 13 .lss (.t 12) (.c (.int .u8 97)),mT 14 13,gM 15 14 false 0,gM 16 14 false 3,
 og 17 14 false (.ixs (.t 15) (.t 16)),gB 18 14 false .gtr (.t 17) (.c (.int .u8 122)),pO 19 14 18])
 (.cond (.t 19)
 (.seq (.ops [mC 2 (.bool false)])
 .ret)
 .skip)))
 (.ops [mT 8 3,bN 9 .add (.t 8) (cI 1),mT 3 9]))))))
 (.seq (.ops [mC 2 (.bool true)])
 .ret)))}
def aS3 :aM:={np:=2,res:=[.tmp 4],keep:=false,body:=
 (.seq (.ops [mC 4 (.bool false)])
 (.seq (.seq (.ops [mC 5 (.int .i64 0)])
 (.block 0 (.loop (.seq (.seq (.ops [mT 6 5,mT 7 0,lN 8 7,bN 9 .lss (.t 6) (.t 8)])
 (.cond (.t 9)
 .skip
 (.exit 0)))
 (.seq (.block 1 (.seq (.ops [mT 12 0,mT 13 5,iA 14 1 12 13,l1 15 14,mT 16 1,o 17 (.bin .eql .str (.t 15) (.t 16))])
 (.cond (.t 17)
 (.seq (.ops [mC 4 (.bool true)])
 .ret)
 .skip)))
 (.ops [mT 10 5,bN 11 .add (.t 10) (cI 1),mT 5 11]))))))
 (.seq (.ops [mC 4 (.bool false)])
 .ret)))}
def aS4 :aM:={np:=2,res:=[.tmp 4],keep:=false,body:=
 (.seq (.ops [mC 4 (.bool false)])
 (.seq (.seq (.ops [mT 6 0,lN 7 6,mT 8 1,lN 9 8,bN 10 .neq (.t 7) (.t 9)])
 (.cond (.t 10)
 (.seq (.ops [mC 4 (.bool false)])
 .ret)
 .skip))
 (.seq (.seq (.ops [mT 11 0,lN 12 11,mC 13 (.int .i64 0)])
 (.block 0 (.loop (.seq (.ops [bN 14 .lss (.t 13) (.t 12)])
 (.seq (.cond (.t 14)
 .skip
 (.exit 0))
 (.seq (.block 1 (.seq (.ops [mT 15 13,mT 5 15])
 (.seq (.draw [mT 16 0,mT 17 5,iA 18 2 16 17,lT 19 2 18,mT 20 1,mT 21 5,iA 22 2 20 21,lT 23 2 22,o 24 (.bin .neq (.agg [.num,.num]) (.t 19) (.t 23))]
 [])
 (.cond (.t 24)
 (.seq (.ops [mC 4 (.bool false)])
 .ret)
 .skip))))
 (.ops [bN 25 .add (.t 13) (cI 1),mT 13 25])))))))
 (.seq (.ops [mC 4 (.bool true)])
 .ret))))}
def aI1 :aM:={np:=3,res:=[.cell 6 true 4,.tmp 7],keep:=false,body:=
 (.seq (.ops [bX 3 5 0,bX 4 2 1,o 6 (.alloc [(.int .i64 0),(.int .i64 0),(.cl []),(.cl [])]),mC 7 (.bool false)])
 (.seq (.seq (.ops [fA 8 0 4,l1 9 8,bN 10 .neq (.t 9) (cI 5),mT 11 10,gF 12 11 false 0 3,g1 13 11 false 12,gF 14 11 false 1 4,g1 15 11 false 14,
 og 16 11 false (.ia 4 (.t 13) (.t 15)),gF 17 11 false 0 16,g1 18 11 false 17,gM 19 11 false 2,gB 20 11 false .neq (.t 18) (.t 19),pO 21 11 20])
 (.cond (.t 21)
 (.seq (.ops [o 22 (.build [(.int .i64 0),(.int .i64 0),(.cl []),(.cl [])] []),sT 4 6 22,mC 7 (.bool false)])
 .ret)
 .skip))
 (.seq (.ops [fA 23 0 3,l1 24 23,fA 25 1 4,l1 26 25,iA 27 4 24 26,lT 28 4 27,sT 4 6 28,mC 7 (.bool true)])
 .ret)))}
def aI2 :aM:={np:=4,res:=[.cell 8 true 3,.tmp 9],keep:=false,body:=
 (.seq (.ops [bX 4 4 0,bX 5 5 1,bX 6 2 2,bX 7 2 3,o 8 (.alloc [(.int .i64 0),(.cl []),(.cl [])]),mC 9 (.bool false)])
 (.seq (.seq (.ops [fA 12 0 6,l1 13 12,bN 14 .eql (.t 13) (cI 4)])
 (.cond (.t 14)
 (.seq (.draw [fA 15 1 4,l1 16 15,fA 17 1 6,l1 18 17,iA 19 1 16 18,l1 20 19,lT 21 2 7,o 22 (.bslice 1 2 [(.int .i64 0),(.int .i64 0)] [(0,(.t 21))]),
 o 23 (.build [(.int .i64 0),(.cl []),(.cl [])] [(0,1,(.t 20)),(1,1,(.t 22))]),sT 3 8 23,mC 9 (.bool true)]
 [(1,7),(3,7),(4,7),(5,7)])
 .ret)
 .skip))
 (.seq (.ops [lT 25 5 5,lT 26 2 6,cL 27 187 [(.t 25),(.t 26),(cI 2)],mT 24 27,o 28 (.ext 0 (.t 24)),o 29 (.ext 1 (.t 24)),
 o 10 (.alloc [(.int .i64 0),(.int .i64 0),(.cl []),(.cl [])]),sT 4 10 28,mT 11 29])
 (.seq (.seq (.ops [mT 30 11,nT 31 30])
 (.cond (.t 31)
 (.seq (.ops [o 32 (.build [(.int .i64 0),(.cl []),(.cl [])] []),sT 3 8 32,mC 9 (.bool false)])
 .ret)
 .skip))
 (.seq (.draw [fA 33 0 4,l1 34 33,fA 35 1 10,l1 36 35,iA 37 4 34 36,fA 38 2 37,l1 39 38,o 40 (.ia 1 (.t 39) (cI 0)),l1 41 40,fA 42 2 10,l1 43 42,lT 44 2 7,
 cL 45 129 [(.t 43),(.t 44)],o 46 (.build [(.int .i64 0),(.cl []),(.cl [])] [(0,1,(.t 41)),(1,1,(.t 45))]),sT 3 8 46,mC 9 (.bool true)]
 [(1,12),(3,12),(4,12),(6,12),(7,12),(8,12)])
 .ret)))))}
def vK :aM:={np:=3,res:=[.tmp 6,.tmp 7],keep:=false,body:=
 (.seq (.ops [bX 3 5 0,bX 4 4 1,bX 5 2 2,mC 6 (.cl []),mC 7 (.bool false)])
 (.seq (.seq (.ops [fA 14 0 4,l1 15 14])
 (.block 0 (.seq (.ops [bN 17 .eql (.t 15) (cI 1),mT 16 17])
 (.cond (.t 16)
 (.seq (.ops [mC 6 (.cl []),mC 7 (.bool true)])
 .ret)
 (.seq (.ops [bN 19 .eql (.t 15) (cI 2),mT 18 19])
 (.cond (.t 18)
 (.seq (.ops [lT 20 2 5,o 21 (.bslice 1 2 [(.int .i64 0),(.int .i64 0)] [(0,(.t 20))]),mT 6 21,mC 7 (.bool true)])
 .ret)
 (.seq (.ops [bN 23 .eql (.t 15) (cI 3),mT 22 23])
 (.cond (.t 22)
 (.seq (.draw [lT 24 2 5,fA 25 1 4,l1 26 25,cL 27 105 [(.t 26)],o 28 (.bin .eql (.agg [.num,.num]) (.t 24) (.t 27)),mC 6 (.cl []),mT 7 28]
 [(0,3)])
 .ret)
 (.seq (.ops [bN 30 .eql (.t 15) (cI 4),mT 29 30])
 (.cond (.t 29)
 (.seq (.draw [lT 31 2 5,fA 32 1 4,l1 33 32,bN 34 .eql (.t 33) (cI 1),cL 35 157 [(.t 34)],o 36 (.bin .eql (.agg [.num,.num]) (.t 31) (.t 35)),mC 6 (.cl []),
 mT 7 36]
 [(0,4)])
 .ret)
 (.seq (.ops [bN 38 .eql (.t 15) (cI 5),mT 37 38])
 (.cond (.t 37)
 (.seq (.draw [lT 39 2 5,cL 40 158 [],o 41 (.bin .eql (.agg [.num,.num]) (.t 39) (.t 40)),mC 6 (.cl []),mT 7 41]
 [(0,1)])
 .ret)
 .skip))))))))))))
 (.seq (.ops [lT 43 5 3,lT 44 2 5,cL 45 187 [(.t 43),(.t 44),(cI 1)],mT 42 45,o 46 (.ext 0 (.t 42)),o 47 (.ext 1 (.t 42)),
 o 8 (.alloc [(.int .i64 0),(.int .i64 0),(.cl []),(.cl [])]),sT 4 8 46,mT 9 47])
 (.seq (.seq (.ops [mT 48 9,nT 49 48,mT 50 49,gF 51 50 false 1 8,g1 52 50 false 51,gF 53 50 false 1 4,g1 54 50 false 53,gB 55 50 false .neq (.t 52) (.t 54),pO 56 50 55,
 mT 57 56,gF 58 57 false 2 8,g1 59 57 false 58,gN 60 57 false 59,gF 61 57 false 3 4,g1 62 57 false 61,gN 63 57 false 62,gB 64 57 false .neq (.t 60) (.t 63),
 pO 65 57 64])
 (.cond (.t 65)
 (.seq (.ops [mC 6 (.cl []),mC 7 (.bool false)])
 .ret)
 .skip))
 (.seq (.ops [mC 10 (.cl [])])
 (.seq (.seq (.ops [mC 11 (.int .i64 0)])
 (.block 1 (.loop (.seq (.seq (.ops [mT 66 11,fA 67 3 4,l1 68 67,lN 69 68,bN 70 .lss (.t 66) (.t 69)])
 (.cond (.t 70)
 .skip
 (.exit 1)))
 (.seq (.block 2 (.seq (.draw [lT 74 5 3,fA 75 3 4,l1 76 75,mT 77 11,iA 78 4 76 77,lT 79 4 78,fA 80 2 8,l1 81 80,mT 82 11,iA 83 2 81 82,lT 84 2 83,
 cL 85 189 [(.t 74),(.t 79),(.t 84)],mT 73 85,o 86 (.ext 0 (.t 73)),o 87 (.ext 1 (.t 73)),mT 12 86,mT 13 87]
 [])
 (.seq (.seq (.ops [mT 88 13,nT 89 88])
 (.cond (.t 89)
 (.seq (.ops [mC 6 (.cl []),mC 7 (.bool false)])
 .ret)
 .skip))
 (.ops [mT 90 10,mT 91 12,o 92 (.append 2 (.t 90) (.t 91)),mT 10 92]))))
 (.ops [mT 71 11,bN 72 .add (.t 71) (cI 1),mT 11 72]))))))
 (.seq (.ops [mT 93 10,mT 6 93,mC 7 (.bool true)])
 .ret)))))))}
def aS5 :aM:={np:=3,res:=[.tmp 6],keep:=false,body:=
 (.seq (.ops [mC 6 (.bool false)])
 (.seq (.ops [mT 7 0,mT 8 1,bN 9 .geq (.t 7) (.t 8),mT 10 9,gM 11 10 true 0,gM 12 10 true 2,gB 13 10 true .leq (.t 11) (.t 12),pA 14 10 13,mT 6 14])
 .ret))}
def aS6 :aM:={np:=2,res:=[.tmp 4],keep:=false,body:=
 (.seq (.ops [bX 3 1 1,mC 4 (.bool false)])
 (.seq (.ops [mT 5 0,o 6 (.mkfn 227 [] [(.t 3)]),cL 7 226 [(.t 5),(.t 6)],nT 8 7,mT 4 8])
 .ret))}
def aS7 :aM:={np:=1,res:=[.tmp 2],keep:=false,body:=
 (.seq (.ops [bX 1 2 0,mC 2 (.bool false)])
 (.seq (.ops [fA 3 0 1,l1 4 3,cL 5 228 [(.t 4)],mT 6 5,gF 7 6 true 1 1,g1 8 6 true 7,gL 9 6 true 198 [(.t 8),(cI 0),(cI 3)],pA 10 6 9,mT 2 10])
 .ret))}
def aS8 :aM:={np:=1,res:=[.tmp 2],keep:=false,body:=
 (.seq (.ops [mC 2 (.bool false)])
 (.seq (.ops [o 6 (.mkmap),mT 3 6])
 (.seq (.seq (.ops [mT 7 0,lN 8 7,mC 9 (.int .i64 0)])
 (.block 0 (.loop (.seq (.ops [bN 10 .lss (.t 9) (.t 8)])
 (.seq (.cond (.t 10)
 .skip
 (.exit 0))
 (.seq (.block 1 (.seq (.ops [iA 11 1 7 9,l1 12 11,mT 5 12])
 (.ops [mT 13 3,mT 14 5,on (.mput .str (.t 13) (.t 14) (cB true))])))
 (.ops [bN 15 .add (.t 9) (cI 1),mT 9 15])))))))
 (.seq (.ops [mT 16 3,o 17 (.len .map (.t 16)),mT 18 0,lN 19 18,bN 20 .eql (.t 17) (.t 19),mT 2 20])
 .ret))))}
def aS9 :aM:={np:=2,res:=[.tmp 4],keep:=false,body:=
 (.seq (.ops [mC 4 (.cl [])])
 (.seq (.ops [mC 5 (.cl [])])
 (.seq (.seq (.ops [mT 8 0,lN 9 8,mC 10 (.int .i64 0)])
 (.block 0 (.loop (.seq (.ops [bN 11 .lss (.t 10) (.t 9)])
 (.seq (.cond (.t 11)
 .skip
 (.exit 0))
 (.seq (.block 1 (.seq (.ops [iA 12 2 8 10,lT 13 2 12,o 7 (.alloc [(.str ⟨#[]⟩),(.int .i64 0)]),sT 2 7 13])
 (.ops [mT 14 5,mT 15 1,lT 16 2 7,o 17 (.call (.t 15) [(.t 16)]),o 18 (.bslice 1 1 [(.str ⟨#[]⟩)] [(0,(.t 17))]),o 19 (.append 1 (.t 14) (.t 18)),mT 5 19])))
 (.ops [bN 20 .add (.t 10) (cI 1),mT 10 20])))))))
 (.seq (.ops [mT 21 5,mT 4 21])
 .ret))))}
def aTa :aM:={np:=1,res:=[.tmp 2],keep:=false,body:=
 (.seq (.ops [bX 1 2 0,mC 2 (.str ⟨#[]⟩)])
 (.seq (.ops [fA 3 0 1,l1 4 3,mT 2 4])
 .ret))}
def aTb :aM:={np:=2,res:=[.tmp 4],keep:=false,body:=
 (.seq (.ops [bX 3 1 1,mC 4 (.bool false)])
 (.seq (.ops [mT 5 0,o 6 (.mkfn 230 [] [(.t 3)]),cL 7 229 [(.t 5),(.t 6)],nT 8 7,mT 4 8])
 .ret))}
def aF9 :aM:={np:=2,res:=[.tmp 4],keep:=false,body:=
 (.seq (.ops [bX 2 4 0,bX 3 4 1,mC 4 (.bool false)])
 (.seq (.ops [fA 7 0 3,l1 8 7,cL 9 231 [(.t 8)],mT 5 9])
 (.seq (.seq (.ops [mT 10 5])
 (.block 0 (.seq (.ops [o 15 (.bin .eql .iface (.t 10) (.c .nili))])
 (.cond (.t 15)
 (.seq (.ops [mC 4 (.bool false)])
 .ret)
 (.seq (.ops [o 16 (.assert 261 (.agg []) true (.t 10)),o 17 (.ext 1 (.t 16)),o 18 (.ext 0 (.t 16))])
 (.cond (.t 17)
 .skip
 (.seq (.ops [fA 11 3 3,l1 12 11,lN 13 12,bN 14 .gtr (.t 13) (cI 0)])
 (.cond (.t 14)
 (.seq (.ops [mC 4 (.bool false)])
 .ret)
 .skip))))))))
 (.seq (.ops [o 19 (.mkfn 232 [] [(.t 2)]),mT 6 19])
 (.seq (.ops [mT 20 5,lT 21 4 2,lT 22 4 3,o 23 (.call (.m [(261,321),(273,322),(274,323)] 20) [(.t 21),(.t 22)]),mT 24 23,
 gT 25 24 true 4 2,gT 26 24 true 4 3,gL 27 24 true 235 [(.t 25),(.t 26)],pA 28 24 27,mT 29 28,gF 30 29 true 3 3,g1 31 29 true 30,gM 32 29 true 6,
 gL 33 29 true 236 [(.t 31),(.t 32)],pA 34 29 33,mT 4 34])
 .ret)))))}
def aTc :aM:={np:=2,res:=[.tmp 4],keep:=false,body:=
 (.seq (.ops [bX 3 1 1,mC 4 (.bool false)])
 (.seq (.ops [mT 5 0,o 6 (.mkfn 238 [] [(.t 3)]),cL 7 237 [(.t 5),(.t 6)],nT 8 7,mT 4 8])
 .ret))}
def aTd :aM:={np:=1,res:=[.tmp 2],keep:=false,body:=
 (.seq (.ops [mC 2 (.bool false)])
 (.seq (.ops [mT 3 0,bN 4 .eql (.t 3) (cI 1),mT 2 4])
 .ret))}
def aTe :aM:={np:=2,res:=[.tmp 4],keep:=false,body:=
 (.seq (.ops [mC 4 (.bool false)])
 (.seq (.ops [mT 5 0,mT 6 1,cL 7 239 [(.t 5),(.t 6)],bN 8 .geq (.t 7) (cI 0),mT 4 8])
 .ret))}
def aTf :aM:={np:=2,res:=[.tmp 3],keep:=false,body:=
 (.seq (.ops [bX 2 4 0,mC 3 (.bool false)])
 (.seq (.ops [l1 4 1,lT 5 4 2,o 6 (.call (.t 4) [(.t 5)]),nT 7 6,mT 3 7])
 .ret))}
def aTg :aM:={np:=2,res:=[.tmp 4],keep:=false,body:=
 (.seq (.ops [bX 3 1 1,mC 4 (.bool false)])
 (.seq (.ops [mT 5 0,o 6 (.mkfn 241 [] [(.t 3)]),cL 7 240 [(.t 5),(.t 6)],nT 8 7,mT 4 8])
 .ret))}
def aTh :aM:={np:=2,res:=[.tmp 4],keep:=false,body:=
 (.seq (.ops [bX 3 2 1,mC 4 (.bool false)])
 (.seq (.seq (.ops [fA 5 0 3,l1 6 5])
 (.block 0 (.seq (.ops [bN 8 .eql (.t 6) (cI 1),mT 7 8])
 (.cond (.t 7)
 (.seq (.ops [fA 9 1 3,l1 10 9,cL 11 182 [(.t 10)],mT 4 11])
 .ret)
 (.seq (.ops [bN 13 .eql (.t 6) (cI 2),mT 12 13])
 (.cond (.t 12)
 (.seq (.ops [fA 14 1 3,l1 15 14,cL 16 181 [(.t 15),(cI 0),(cI 1)],mT 4 16])
 .ret)
 (.seq (.ops [bN 18 .eql (.t 6) (cI 3),mT 17 18])
 (.cond (.t 17)
 (.seq (.ops [fA 19 1 3,l1 20 19,bN 21 .eql (.t 20) (cI 0),mT 4 21])
 .ret)
 (.seq (.ops [bN 23 .eql (.t 6) (cI 4),mT 22 23])
 (.cond (.t 22)
 (.seq (.draw [fA 24 1 3,l1 25 24,mT 26 0,nK 27 26,fA 28 0 27,fA 29 1 28,l1 30 29,lN 31 30,bN 32 .sub (.t 31) (cI 1),cL 33 181 [(.t 25),(cI 0),(.t 32)],
 mT 4 33]
 [])
 .ret)
 (.seq (.ops [bN 35 .eql (.t 6) (cI 5),mT 34 35])
 (.cond (.t 34)
 (.seq (.draw [fA 36 1 3,l1 37 36,mT 38 0,nK 39 38,fA 40 4 39,fA 41 0 40,l1 42 41,lN 43 42,bN 44 .sub (.t 43) (cI 1),cL 45 181 [(.t 37),(cI 0),(.t 44)],
 mT 4 45]
 [])
 .ret)
 .skip))))))))))))
 (.seq (.ops [mC 4 (.bool false)])
 .ret)))}
def aTi :aM:={np:=3,res:=[.tmp 6],keep:=false,body:=
 (.seq (.ops [mC 6 (.bool false)])
 (.seq (.ops [mT 7 1,lN 8 7,bN 9 .leq (.t 8) (cI 40),mT 10 9,gM 11 10 true 1,gM 12 10 true 0,og 13 10 true (.mkfn 243 [(.t 12)] []),
 gL 14 10 true 242 [(.t 11),(.t 13)],pA 15 10 14,mT 16 15,gM 17 16 true 1,gM 18 16 true 1,gN 19 16 true 18,gM 20 16 true 2,
 gB 21 16 true .sub (.t 19) (.t 20),og 22 16 true (.minmax true [(cI 0),(.t 21)]),og 23 16 true (.slice false 3 (.t 17) none (some (.t 22)) none),gM 24 16 true 0,
 og 25 16 true (.mkfn 244 [(.t 24)] []),gL 26 16 true 242 [(.t 23),(.t 25)],pA 27 16 26,mT 6 27])
 .ret))}
def aTj :aM:={np:=2,res:=[.tmp 4],keep:=false,body:=
 (.seq (.ops [bX 3 4 1,mC 4 (.bool false)])
 (.seq (.seq (.ops [fA 5 1 3,l1 6 5])
 (.block 0 (.seq (.ops [bN 8 .eql (.t 6) (cI 0),mT 7 8])
 (.cond (.t 7)
 (.seq (.seq (.ops [fA 9 2 3,l1 10 9,lN 11 10,bN 12 .gtr (.t 11) (cI 1),mT 13 12,gF 14 13 false 3 3,g1 15 13 false 14,gN 16 13 false 15,
 gB 17 13 false .eql (.t 16) (cI 0),gM 18 13 false 17,gF 19 18 true 2 3,g1 20 18 true 19,gN 21 18 true 20,gB 22 18 true .eql (.t 21) (cI 0),
 og 23 13 false (.pick (.t 18) (.t 22) (cB false)),pO 24 13 23])
 (.cond (.t 24)
 (.seq (.ops [mC 4 (.bool false)])
 .ret)
 .skip))
 (.seq (.ops [mT 25 0,fA 26 3 3,l1 27 26,fA 28 2 3,l1 29 28,lN 30 29,bN 31 .sub (cI 1) (.t 30),cL 32 212 [(.t 25),(.t 27),(.t 31)],mT 4 32])
 .ret))
 (.seq (.ops [bN 34 .eql (.t 6) (cI 1),mT 33 34])
 (.cond (.t 33)
 (.seq (.ops [fA 35 2 3,l1 36 35,lN 37 36,bN 38 .eql (.t 37) (cI 1),mT 39 38,gF 40 39 true 3 3,g1 41 39 true 40,gN 42 39 true 41,gB 43 39 true .eql (.t 42) (cI 0),
 pA 44 39 43,mT 4 44])
 .ret)
 (.seq (.seq (.ops [bN 46 .eql (.t 6) (cI 2),mT 45 46])
 (.cond (.t 45)
 .skip
 (.seq (.ops [bN 47 .eql (.t 6) (cI 3),mT 45 47])
 (.cond (.t 45)
 .skip
 (.ops [bN 48 .eql (.t 6) (cI 4),mT 45 48])))))
 (.cond (.t 45)
 (.seq (.ops [fA 49 2 3,l1 50 49,lN 51 50,bN 52 .eql (.t 51) (cI 0),mT 53 52,gF 54 53 true 3 3,g1 55 53 true 54,gN 56 53 true 55,gB 57 53 true .eql (.t 56) (cI 0),
 pA 58 53 57,mT 4 58])
 .ret)
 .skip))))))))
 (.seq (.ops [mC 4 (.bool false)])
 .ret)))}
def aTk :aM:={np:=2,res:=[.tmp 4],keep:=false,body:=
 (.seq (.ops [bX 3 1 1,mC 4 (.bool false)])
 (.seq (.ops [mT 5 0,o 6 (.mkfn 245 [] [(.t 3)]),cL 7 237 [(.t 5),(.t 6)],nT 8 7,mT 4 8])
 .ret))}
def aTl :aM:={np:=1,res:=[.tmp 2],keep:=false,body:=
 (.seq (.ops [mC 2 (.cl [])])
 (.seq (.ops [mT 3 0,o 4 (.icall (.f 246) [(.c (.cl [])),(.t 3)]),mT 2 4])
 .ret))}
def aTm :aM:={np:=1,res:=[.tmp 2],keep:=false,body:=
 (.seq (.ops [bX 1 1 0,mC 2 .nilf])
 (.seq (.ops [o 3 (.mkfn 247 [] [(.t 1)]),mT 2 3])
 .ret))}
def aTn :aM:={np:=3,res:=[.tmp 4],keep:=false,body:=
 (.seq (.ops [mC 4 (.bool false)])
 (.seq (.ops [l1 5 1,mT 6 0,o 7 (.mget .num (.bool false) false (.t 5) (.t 6)),mT 8 7,g1 9 8 false 2,og 10 8 false (.nilck (.t 9)),gF 11 8 false 4 10,
 gF 12 8 false 0 11,g1 13 8 false 12,gM 14 8 false 0,og 15 8 false (.ia 4 (.t 13) (.t 14)),gF 16 8 false 0 15,g1 17 8 false 16,gB 18 8 false .neq (.t 17) (cI 6),
 pO 19 8 18,mT 4 19])
 .ret))}
def aTo :aM:={np:=2,res:=[.tmp 4],keep:=false,body:=
 (.seq (.ops [mC 4 (.bool false)])
 (.seq (.ops [mT 5 0,mT 6 1,cL 7 248 [(.t 5),(.t 6)],bN 8 .geq (.t 7) (cI 0),mT 4 8])
 .ret))}
def aTp :aM:={np:=2,res:=[.tmp 3],keep:=false,body:=
 (.seq (.ops [bX 2 2 0,mC 3 (.bool false)])
 (.seq (.ops [l1 4 1,lT 5 2 2,o 6 (.call (.t 4) [(.t 5)]),nT 7 6,mT 3 7])
 .ret))}
def aTq :aM:={np:=1,res:=[.tmp 2],keep:=false,body:=
 (.seq (.ops [bX 1 4 0,mC 2 (.int .i64 0)])
 (.seq (.seq (.ops [fA 3 0 1,l1 4 3])
 (.block 0 (.seq (.seq (.ops [bN 6 .eql (.t 4) (cI 6),mT 5 6])
 (.cond (.t 5)
 .skip
 (.seq (.ops [bN 7 .eql (.t 4) (cI 9),mT 5 7])
 (.cond (.t 5)
 .skip
 (.seq (.ops [bN 8 .eql (.t 4) (cI 10),mT 5 8])
 (.cond (.t 5)
 .skip
 (.seq (.ops [bN 9 .eql (.t 4) (cI 11),mT 5 9])
 (.cond (.t 5)
 .skip
 (.seq (.ops [bN 10 .eql (.t 4) (cI 12),mT 5 10])
 (.cond (.t 5)
 .skip
 (.seq (.ops [bN 11 .eql (.t 4) (cI 13),mT 5 11])
 (.cond (.t 5)
 .skip
 (.seq (.ops [bN 12 .eql (.t 4) (cI 18),mT 5 12])
 (.cond (.t 5)
 .skip
 (.ops [bN 13 .eql (.t 4) (cI 22),mT 5 13])))))))))))))))
 (.cond (.t 5)
 (.seq (.ops [mC 2 (.int .i64 2)])
 .ret)
 (.seq (.ops [bN 15 .eql (.t 4) (cI 14),mT 14 15])
 (.cond (.t 14)
 (.seq (.ops [fA 16 2 1,l1 17 16,lN 18 17,mT 2 18])
 .ret)
 (.seq (.seq (.ops [bN 20 .eql (.t 4) (cI 7),mT 19 20])
 (.cond (.t 19)
 .skip
 (.seq (.ops [bN 21 .eql (.t 4) (cI 8),mT 19 21])
 (.cond (.t 19)
 .skip
 (.seq (.ops [bN 22 .eql (.t 4) (cI 15),mT 19 22])
 (.cond (.t 19)
 .skip
 (.seq (.ops [bN 23 .eql (.t 4) (cI 16),mT 19 23])
 (.cond (.t 19)
 .skip
 (.seq (.ops [bN 24 .eql (.t 4) (cI 17),mT 19 24])
 (.cond (.t 19)
 .skip
 (.seq (.ops [bN 25 .eql (.t 4) (cI 19),mT 19 25])
 (.cond (.t 19)
 .skip
 (.seq (.ops [bN 26 .eql (.t 4) (cI 20),mT 19 26])
 (.cond (.t 19)
 .skip
 (.seq (.ops [bN 27 .eql (.t 4) (cI 23),mT 19 27])
 (.cond (.t 19)
 .skip
 (.seq (.ops [bN 28 .eql (.t 4) (cI 24),mT 19 28])
 (.cond (.t 19)
 .skip
 (.ops [bN 29 .eql (.t 4) (cI 26),mT 19 29])))))))))))))))))))
 (.cond (.t 19)
 (.seq (.ops [mC 2 (.int .i64 1)])
 .ret)
 .skip))))))))
 (.seq (.ops [mC 2 (.int .i64 0)])
 .ret)))}
def aTr :aM:={np:=2,res:=[.tmp 4],keep:=false,body:=
 (.seq (.ops [mC 4 (.bool false)])
 (.seq (.ops [mT 5 0,mT 6 1,cL 7 275 [(.t 5),(.t 6)],bN 8 .geq (.t 7) (cI 0),mT 4 8])
 .ret))}
def aTs :aM:={np:=2,res:=[.tmp 3],keep:=false,body:=
 (.seq (.ops [bX 2 2 0,mC 3 (.bool false)])
 (.seq (.ops [l1 4 1,lT 5 2 2,o 6 (.call (.t 4) [(.t 5)]),nT 7 6,mT 3 7])
 .ret))}
def aTt :aM:={np:=1,res:=[.tmp 2],keep:=false,body:=
 (.seq (.ops [mC 2 (.bool false)])
 (.seq (.ops [mT 3 0,o 4 (.bin .neq .str (.t 3) (.c (.str ⟨#[]⟩))),mT 5 4,gM 6 5 true 0,og 7 5 true (.len .str (.t 6)),gB 8 5 true .leq (.t 7) (cI 8),pA 9 5 8,mT 10 9,
 gM 11 10 true 0,og 12 10 true (.ixs (.t 11) (cI 0)),gB 13 10 true .geq (.t 12) (.c (.int .u8 65)),pA 14 10 13,mT 15 14,gM 16 15 true 0,
 og 17 15 true (.ixs (.t 16) (cI 0)),gB 18 15 true .leq (.t 17) (.c (.int .u8 90)),pA 19 15 18,mT 20 19,gM 21 20 true 0,
 og 22 20 true (.slice true 1 (.t 21) (some (cI 1)) none none),gL 23 20 true 276 [(.t 22)],pA 24 20 23,mT 2 24])
 .ret))}
def aTu :aM:={np:=2,res:=[.tmp 4],keep:=false,body:=
 (.seq (.ops [mC 4 (.bool false)])
 (.seq (.ops [mT 5 0,mT 6 1,cL 7 277 [(.t 5),(.t 6)],bN 8 .geq (.t 7) (cI 0),mT 4 8])
 .ret))}
def aTv :aM:={np:=2,res:=[.tmp 3],keep:=false,body:=
 (.seq (.ops [bX 2 4 0,mC 3 (.bool false)])
 (.seq (.ops [l1 4 1,lT 5 4 2,o 6 (.call (.t 4) [(.t 5)]),nT 7 6,mT 3 7])
 .ret))}
def aTw :aM:={np:=1,res:=[.tmp 2],keep:=false,body:=
 (.seq (.ops [mC 2 .nili])
 (.seq (.seq (.ops [mT 3 0])
 (.block 0 (.seq (.seq (.ops [bN 5 .eql (.t 3) (cI 1),mT 4 5])
 (.cond (.t 4)
 .skip
 (.seq (.ops [bN 6 .eql (.t 3) (cI 2),mT 4 6])
 (.cond (.t 4)
 .skip
 (.seq (.ops [bN 7 .eql (.t 3) (cI 3),mT 4 7])
 (.cond (.t 4)
 .skip
 (.seq (.ops [bN 8 .eql (.t 3) (cI 4),mT 4 8])
 (.cond (.t 4)
 .skip
 (.seq (.ops [bN 9 .eql (.t 3) (cI 21),mT 4 9])
 (.cond (.t 4)
 .skip
 (.seq (.ops [bN 10 .eql (.t 3) (cI 25),mT 4 10])
 (.cond (.t 4)
 .skip
 (.ops [bN 11 .eql (.t 3) (cI 28),mT 4 11])))))))))))))
 (.cond (.t 4)
 (.seq (.ops [o 12 (.iface 273 (cI 0)),mT 2 12])
 .ret)
 (.seq (.seq (.ops [bN 14 .eql (.t 3) (cI 5),mT 13 14])
 (.cond (.t 13)
 .skip
 (.seq (.ops [bN 15 .eql (.t 3) (cI 27),mT 13 15])
 (.cond (.t 13)
 .skip
 (.seq (.ops [bN 16 .eql (.t 3) (cI 16),mT 13 16])
 (.cond (.t 13)
 .skip
 (.seq (.ops [bN 17 .eql (.t 3) (cI 17),mT 13 17])
 (.cond (.t 13)
 .skip
 (.seq (.ops [bN 18 .eql (.t 3) (cI 19),mT 13 18])
 (.cond (.t 13)
 .skip
 (.seq (.ops [bN 19 .eql (.t 3) (cI 20),mT 13 19])
 (.cond (.t 13)
 .skip
 (.seq (.ops [bN 20 .eql (.t 3) (cI 23),mT 13 20])
 (.cond (.t 13)
 .skip
 (.seq (.ops [bN 21 .eql (.t 3) (cI 24),mT 13 21])
 (.cond (.t 13)
 .skip
 (.ops [bN 22 .eql (.t 3) (cI 26),mT 13 22])))))))))))))))))
 (.cond (.t 13)
 (.seq (.ops [o 23 (.iface 273 (cI 1)),mT 2 23])
 .ret)
 (.seq (.seq (.ops [bN 25 .eql (.t 3) (cI 6),mT 24 25])
 (.cond (.t 24)
 .skip
 (.seq (.ops [bN 26 .eql (.t 3) (cI 7),mT 24 26])
 (.cond (.t 24)
 .skip
 (.seq (.ops [bN 27 .eql (.t 3) (cI 9),mT 24 27])
 (.cond (.t 24)
 .skip
 (.seq (.ops [bN 28 .eql (.t 3) (cI 10),mT 24 28])
 (.cond (.t 24)
 .skip
 (.seq (.ops [bN 29 .eql (.t 3) (cI 11),mT 24 29])
 (.cond (.t 24)
 .skip
 (.seq (.ops [bN 30 .eql (.t 3) (cI 12),mT 24 30])
 (.cond (.t 24)
 .skip
 (.seq (.ops [bN 31 .eql (.t 3) (cI 13),mT 24 31])
 (.cond (.t 24)
 .skip
 (.seq (.ops [bN 32 .eql (.t 3) (cI 18),mT 24 32])
 (.cond (.t 24)
 .skip
 (.ops [bN 33 .eql (.t 3) (cI 22),mT 24 33])))))))))))))))))
 (.cond (.t 24)
 (.seq (.ops [o 34 (.iface 273 (cI 2)),mT 2 34])
 .ret)
 (.seq (.ops [bN 36 .eql (.t 3) (cI 8),mT 35 36])
 (.cond (.t 35)
 (.seq (.ops [o 37 (.iface 273 (cI 3)),mT 2 37])
 .ret)
 (.seq (.ops [bN 39 .eql (.t 3) (cI 14),mT 38 39])
 (.cond (.t 38)
 (.seq (.ops [o 40 (.build [] []),o 41 (.iface 274 (.t 40)),mT 2 41])
 .ret)
 (.seq (.ops [bN 43 .eql (.t 3) (cI 15),mT 42 43])
 (.cond (.t 42)
 (.seq (.ops [o 44 (.build [] []),o 45 (.iface 261 (.t 44)),mT 2 45])
 .ret)
 .skip))))))))))))))
 (.seq (.ops [mC 2 .nili])
 .ret)))}
def aTx :aM:={np:=2,res:=[.tmp 3],keep:=false,body:=
 (.seq (.ops [bX 2 4 0,mC 3 (.bool false)])
 (.seq (.ops [lT 4 4 2,cL 5 233 [(.t 4),(cI 12)],bN 6 .leq (.t 5) (cI 12),mT 7 6,gT 8 7 true 4 1,gT 9 7 true 4 2,
 gL 10 7 true 234 [(.t 8),(.t 9)],pA 11 7 10,mT 3 11])
 .ret))}
def aTy :aM:={np:=2,res:=[.tmp 4],keep:=false,body:=
 (.seq (.ops [bX 2 4 0,mC 4 (.int .i64 0)])
 (.seq (.ops [mC 5 (.int .i64 1)])
 (.seq (.seq (.ops [fA 8 3 2,l1 9 8,lN 10 9,mC 11 (.int .i64 0)])
 (.block 0 (.loop (.seq (.ops [bN 12 .lss (.t 11) (.t 10)])
 (.seq (.cond (.t 12)
 .skip
 (.exit 0))
 (.seq (.block 1 (.seq (.ops [iA 13 4 9 11,lT 14 4 13,o 7 (.alloc [(.int .i64 0),(.int .i64 0),(.str ⟨#[]⟩),(.cl [])]),sT 4 7 14])
 (.seq (.seq (.ops [mT 15 5,mT 16 1,bN 17 .gtr (.t 15) (.t 16)])
 (.cond (.t 17)
 (.exit 0)
 .skip))
 (.ops [mT 18 5,lT 19 4 7,mT 20 1,mT 21 5,bN 22 .sub (.t 20) (.t 21),cL 23 233 [(.t 19),(.t 22)],bN 24 .add (.t 18) (.t 23),mT 5 24]))))
 (.ops [bN 25 .add (.t 11) (cI 1),mT 11 25])))))))
 (.seq (.ops [mT 26 5,mT 4 26])
 .ret))))}
def aTz :aM:={np:=2,res:=[.tmp 4],keep:=false,body:=
 (.seq (.ops [bX 2 4 0,bX 3 4 1,mC 4 (.bool false)])
 (.seq (.seq (.ops [fA 5 2 3,l1 6 5,o 7 (.bin .neq .str (.t 6) (.c (.str ⟨#[]⟩))),mT 8 7,gF 9 8 false 3 3,g1 10 8 false 9,gT 11 8 false 4 2,
 og 12 8 false (.mkfn 234 [(.t 11)] []),gL 13 8 false 236 [(.t 10),(.t 12)],og 14 8 false (.un .not (.t 13)),pO 15 8 14])
 (.cond (.t 15)
 (.seq (.ops [mC 4 (.bool false)])
 .ret)
 .skip))
 (.seq (.seq (.ops [fA 16 0 3,l1 17 16])
 (.block 0 (.seq (.seq (.ops [bN 19 .eql (.t 17) (cI 1),mT 18 19])
 (.cond (.t 18)
 .skip
 (.seq (.ops [bN 20 .eql (.t 17) (cI 2),mT 18 20])
 (.cond (.t 18)
 .skip
 (.ops [bN 21 .eql (.t 17) (cI 5),mT 18 21])))))
 (.cond (.t 18)
 (.seq (.ops [fA 22 1 3,l1 23 22,bN 24 .eql (.t 23) (cI 0),mT 25 24,gF 26 25 true 3 3,g1 27 25 true 26,gN 28 25 true 27,gB 29 25 true .eql (.t 28) (cI 0),pA 30 25 29,
 mT 4 30])
 .ret)
 (.seq (.ops [bN 32 .eql (.t 17) (cI 3),mT 31 32])
 (.cond (.t 31)
 (.seq (.ops [fA 33 1 3,l1 34 33,cL 35 278 [(.t 34)],mT 36 35,gF 37 36 true 3 3,g1 38 36 true 37,gN 39 36 true 38,gB 40 36 true .eql (.t 39) (cI 0),
 pA 41 36 40,mT 4 41])
 .ret)
 (.seq (.ops [bN 43 .eql (.t 17) (cI 4),mT 42 43])
 (.cond (.t 42)
 (.seq (.ops [fA 44 1 3,l1 45 44,cL 46 198 [(.t 45),(cI 0),(cI 1)],mT 47 46,gF 48 47 true 3 3,g1 49 47 true 48,gN 50 47 true 49,gB 51 47 true .eql (.t 50) (cI 0),
 pA 52 47 51,mT 4 52])
 .ret)
 (.seq (.ops [bN 54 .eql (.t 17) (cI 6),mT 53 54])
 (.cond (.t 53)
 (.seq (.draw [fA 55 1 3,l1 56 55,fA 57 0 2,fA 58 3 57,l1 59 58,lN 60 59,bN 61 .sub (.t 60) (cI 1),cL 62 198 [(.t 56),(cI 0),(.t 61)],mT 63 62,gF 64 63 true 3 3,
 g1 65 63 true 64,gN 66 63 true 65,gF 67 63 true 0 2,gF 68 63 true 3 67,g1 69 63 true 68,gF 70 63 true 1 3,g1 71 63 true 70,og 72 63 true (.ia 2 (.t 69) (.t 71)),
 gF 73 63 true 1 72,g1 74 63 true 73,gB 75 63 true .eql (.t 66) (.t 74),pA 76 63 75,mT 4 76]
 [])
 .ret)
 .skip))))))))))
 (.seq (.ops [mC 4 (.bool false)])
 .ret))))}
def aT0 :aM:={np:=2,res:=[.tmp 4],keep:=false,body:=
 (.seq (.ops [bX 2 4 0,bX 3 4 1,mC 4 (.bool false)])
 (.seq (.seq (.ops [fA 5 0 3,l1 6 5])
 (.block 0 (.seq (.ops [bN 8 .eql (.t 6) (cI 1),mT 7 8])
 (.cond (.t 7)
 (.seq (.ops [fA 9 1 3,l1 10 9,cL 11 278 [(.t 10)],mT 4 11])
 .ret)
 (.seq (.ops [bN 13 .eql (.t 6) (cI 2),mT 12 13])
 (.cond (.t 12)
 (.seq (.ops [fA 14 1 3,l1 15 14,cL 16 198 [(.t 15),(cI 0),(cI 1)],mT 4 16])
 .ret)
 (.seq (.ops [bN 18 .eql (.t 6) (cI 24),mT 17 18])
 (.cond (.t 17)
 (.seq (.ops [fA 19 1 3,l1 20 19,cL 21 198 [(.t 20),(cI 0),(cI 3)],mT 4 21])
 .ret)
 (.seq (.ops [bN 23 .eql (.t 6) (cI 4),mT 22 23])
 (.cond (.t 22)
 (.seq (.ops [fA 24 1 3,l1 25 24,fA 26 0 2,fA 27 1 26,l1 28 27,lN 29 28,o 30 (.un .neg (.t 29)),cL 31 198 [(.t 25),(.t 30),(cI 29)],mT 4 31])
 .ret)
 (.seq (.ops [bN 33 .eql (.t 6) (cI 14),mT 32 33])
 (.cond (.t 32)
 (.seq (.ops [mC 4 (.bool true)])
 .ret)
 .skip))))))))))))
 (.seq (.ops [fA 34 1 3,l1 35 34,bN 36 .eql (.t 35) (cI 0),mT 4 36])
 .ret)))}
def aT1 :aM:={np:=2,res:=[.tmp 4],keep:=false,body:=
 (.seq (.ops [bX 3 1 1,mC 4 (.bool false)])
 (.seq (.ops [mT 5 0,o 6 (.mkfn 280 [] [(.t 3)]),cL 7 279 [(.t 5),(.t 6)],nT 8 7,mT 4 8])
 .ret))}
def aT2 :aM:={np:=2,res:=[.tmp 4],keep:=false,body:=
 (.seq (.ops [mC 4 (.bool false)])
 (.seq (.ops [mT 5 0,mT 6 1,cL 7 281 [(.t 5),(.t 6)],bN 8 .geq (.t 7) (cI 0),mT 4 8])
 .ret))}
def aT3 :aM:={np:=2,res:=[.tmp 3],keep:=false,body:=
 (.seq (.ops [mC 3 (.bool false)])
 (.seq (.ops [l1 4 1,mT 5 0,o 6 (.call (.t 4) [(.t 5)]),nT 7 6,mT 3 7])
 .ret))}
def aT4 :aM:={np:=2,res:=[.tmp 4],keep:=false,body:=
 (.seq (.ops [mC 4 (.int .i64 0)])
 (.seq (.seq (.ops [mT 6 0,lN 7 6,mC 8 (.int .i64 0)])
 (.block 0 (.loop (.seq (.ops [bN 9 .lss (.t 8) (.t 7)])
 (.seq (.cond (.t 9)
 .skip
 (.exit 0))
 (.seq (.block 1 (.seq (.ops [mT 10 8,mT 5 10])
 (.seq (.ops [mT 11 1,mT 12 0,mT 13 5,iA 14 4 12 13,lT 15 4 14,o 16 (.call (.t 11) [(.t 15)])])
 (.cond (.t 16)
 (.seq (.ops [mT 17 5,mT 4 17])
 .ret)
 .skip))))
 (.ops [bN 18 .add (.t 8) (cI 1),mT 8 18])))))))
 (.seq (.ops [mC 4 (.int .i64 (-1))])
 .ret)))}
def aT5 :aM:={np:=2,res:=[.tmp 4],keep:=false,body:=
 (.seq (.ops [mC 4 (.bool false)])
 (.seq (.ops [mT 5 0,mT 6 1,cL 7 282 [(.t 5),(.t 6)],bN 8 .geq (.t 7) (cI 0),mT 4 8])
 .ret))}
def aT6 :aM:={np:=2,res:=[.tmp 3],keep:=false,body:=
 (.seq (.ops [bX 2 2 0,mC 3 (.bool false)])
 (.seq (.ops [l1 4 1,lT 5 2 2,o 6 (.call (.t 4) [(.t 5)]),nT 7 6,mT 3 7])
 .ret))}
def aT7 :aM:={np:=2,res:=[.tmp 4],keep:=false,body:=
 (.seq (.ops [bX 3 1 1,mC 4 (.bool false)])
 (.seq (.ops [mT 5 0,o 6 (.mkfn 284 [] [(.t 3)]),cL 7 283 [(.t 5),(.t 6)],nT 8 7,mT 4 8])
 .ret))}
def aT8 :aM:={np:=2,res:=[.tmp 4],keep:=false,body:=
 (.seq (.ops [bX 3 3 1,mC 4 (.bool false)])
 (.seq (.draw [fA 5 0 3,l1 6 5,mT 7 0,nK 8 7,fA 9 0 8,fA 10 0 9,l1 11 10,lN 12 11,bN 13 .sub (.t 12) (cI 1),cL 14 181 [(.t 6),(cI 0),(.t 13)],mT 15 14,
 gF 16 15 true 1 3,g1 17 15 true 16,gN 18 15 true 17,gB 19 15 true .leq (.t 18) (cI 30),pA 20 15 19,mT 21 20,gF 22 21 true 2 3,g1 23 21 true 22,gN 24 21 true 23,
 gM 25 21 true 0,og 26 21 true (.nilck (.t 25)),gF 27 21 true 0 26,gF 28 21 true 0 27,g1 29 21 true 28,gF 30 21 true 0 3,g1 31 21 true 30,
 og 32 21 true (.ia 4 (.t 29) (.t 31)),gT 33 21 true 4 32,gL 34 21 true 223 [(.t 33)],gB 35 21 true .leq (.t 24) (.t 34),pA 36 21 35,mT 37 36,gF 38 37 true 1 3,
 g1 39 37 true 38,gM 40 37 true 0,og 41 37 true (.mkfn 211 [(.t 40)] []),gL 42 37 true 210 [(.t 39),(.t 41)],pA 43 37 42,mT 44 43,
 gF 45 44 true 2 3,g1 46 44 true 45,gM 47 44 true 0,og 48 44 true (.mkfn 211 [(.t 47)] []),gL 49 44 true 210 [(.t 46),(.t 48)],
 pA 50 44 49,mT 4 50]
 [(18,29),(19,29)])
 .ret))}
def aT9 :aM:={np:=2,res:=[.tmp 4],keep:=false,body:=
 (.seq (.ops [bX 3 3 1,mC 4 (.bool false)])
 (.seq (.draw [fA 5 2 3,l1 6 5,lN 7 6,mT 8 0,nK 9 8,fA 10 0 9,fA 11 0 10,l1 12 11,fA 13 0 3,l1 14 13,iA 15 4 12 14,lT 16 4 15,cL 17 223 [(.t 16)],
 bN 18 .lss (.t 7) (.t 17),mT 4 18]
 [(1,12),(2,12)])
 .ret))}
def aUa :aM:={np:=2,res:=[.tmp 3],keep:=false,body:=
 (.seq (.ops [mC 3 (.bool false)])
 (.seq (.ops [l1 4 1,mT 5 0,o 6 (.call (.t 4) [(.t 5)]),nT 7 6,mT 3 7])
 .ret))}
def aUb :aM:={np:=2,res:=[.tmp 4],keep:=false,body:=
 (.seq (.ops [bX 2 1 0,mC 4 (.cl [])])
 (.seq (.seq (.ops [mT 6 1])
 (.block 0 (.rangeF (.t 6) [7]
 (.ops [mT 5 7])
 (.block 1 (.ops [l1 8 2,mT 9 5,o 10 (.bslice 1 1 [(.int .i64 0)] [(0,(.t 9))]),o 11 (.append 1 (.t 8) (.t 10)),sT 1 2 11])))))
 (.seq (.ops [l1 12 2,mT 4 12])
 .ret)))}
def aUc :aM:={np:=2,res:=[],keep:=false,body:=
 (.seq (.ops [l1 4 1,mC 5 (.int .i64 0)])
 (.block 0 (.loop (.seq (.ops [bN 6 .lss (.t 5) (.t 4)])
 (.seq (.cond (.t 6)
 .skip
 (.exit 0))
 (.seq (.block 1 (.seq (.ops [mT 7 5,mT 3 7])
 (.seq (.ops [mT 8 0,mT 9 3,o 10 (.icall (.t 8) [(.t 9)]),nT 11 10])
 (.cond (.t 11)
 .ret
 .skip))))
 (.ops [bN 12 .add (.t 5) (cI 1),mT 5 12])))))))}
def aUd :aM:={np:=2,res:=[.tmp 4],keep:=false,body:=
 (.seq (.ops [mC 4 (.int .i64 0)])
 (.seq (.seq (.ops [mT 6 0,lN 7 6,mC 8 (.int .i64 0)])
 (.block 0 (.loop (.seq (.ops [bN 9 .lss (.t 8) (.t 7)])
 (.seq (.cond (.t 9)
 .skip
 (.exit 0))
 (.seq (.block 1 (.seq (.ops [mT 10 8,mT 5 10])
 (.seq (.ops [mT 11 1,mT 12 0,mT 13 5,iA 14 2 12 13,lT 15 2 14,o 16 (.call (.t 11) [(.t 15)])])
 (.cond (.t 16)
 (.seq (.ops [mT 17 5,mT 4 17])
 .ret)
 .skip))))
 (.ops [bN 18 .add (.t 8) (cI 1),mT 8 18])))))))
 (.seq (.ops [mC 4 (.int .i64 (-1))])
 .ret)))}
def aUe :aM:={np:=2,res:=[.tmp 4],keep:=false,body:=
 (.seq (.ops [mC 4 (.int .i64 0)])
 (.seq (.seq (.ops [mT 6 0,lN 7 6,mC 8 (.int .i64 0)])
 (.block 0 (.loop (.seq (.ops [bN 9 .lss (.t 8) (.t 7)])
 (.seq (.cond (.t 9)
 .skip
 (.exit 0))
 (.seq (.block 1 (.seq (.ops [mT 10 8,mT 5 10])
 (.seq (.ops [mT 11 1,mT 12 0,mT 13 5,iA 14 2 12 13,lT 15 2 14,o 16 (.call (.t 11) [(.t 15)])])
 (.cond (.t 16)
 (.seq (.ops [mT 17 5,mT 4 17])
 .ret)
 .skip))))
 (.ops [bN 18 .add (.t 8) (cI 1),mT 8 18])))))))
 (.seq (.ops [mC 4 (.int .i64 (-1))])
 .ret)))}
def aUf :aM:={np:=1,res:=[.tmp 2],keep:=false,body:=
 (.seq (.ops [mC 2 (.bool false)])
 (.seq (.seq (.ops [mT 5 0,o 6 (.rng (.t 5))])
 (.block 0 (.loop (.seq (.ops [o 7 (.nxt (.t 6)),o 8 (.ext 0 (.t 7))])
 (.seq (.cond (.t 8)
 .skip
 (.exit 0))
 (.block 1 (.seq (.ops [o 9 (.ext 2 (.t 7)),mT 4 9])
 (.seq (.ops [mT 10 4,bN 11 .lss (.t 10) (.c (.int .i32 97)),mT 12 11,gM 13 12 false 4,gB 14 12 false .gtr (.t 13) (.c (.int .i32 122)),pO 15 12 14])
 (.cond (.t 15)
 (.seq (.ops [mC 2 (.bool false)])
 .ret)
 .skip)))))))))
 (.seq (.ops [mC 2 (.bool true)])
 .ret)))}
def aUg :aM:={np:=2,res:=[.tmp 4],keep:=false,body:=
 (.seq (.ops [mC 4 (.int .i64 0)])
 (.seq (.seq (.ops [mT 6 0,lN 7 6,mC 8 (.int .i64 0)])
 (.block 0 (.loop (.seq (.ops [bN 9 .lss (.t 8) (.t 7)])
 (.seq (.cond (.t 9)
 .skip
 (.exit 0))
 (.seq (.block 1 (.seq (.ops [mT 10 8,mT 5 10])
 (.seq (.ops [mT 11 1,mT 12 0,mT 13 5,iA 14 4 12 13,lT 15 4 14,o 16 (.call (.t 11) [(.t 15)])])
 (.cond (.t 16)
 (.seq (.ops [mT 17 5,mT 4 17])
 .ret)
 .skip))))
 (.ops [bN 18 .add (.t 8) (cI 1),mT 8 18])))))))
 (.seq (.ops [mC 4 (.int .i64 (-1))])
 .ret)))}
def aUh :aM:={np:=1,res:=[.tmp 2],keep:=false,body:=
 (.seq (.ops [mC 2 (.bool false)])
 (.seq (.ops [mT 3 0,cL 4 198 [(.t 3),(cI (-1000000000)),(cI 1000000000)],mT 2 4])
 .ret))}
def aUi :aM:={np:=2,res:=[.tmp 4],keep:=false,body:=
 (.seq (.ops [mC 4 (.bool false)])
 (.seq (.ops [mT 5 0,mT 6 1,cL 7 299 [(.t 5),(.t 6)],bN 8 .geq (.t 7) (cI 0),mT 4 8])
 .ret))}
def aUj :aM:={np:=2,res:=[.tmp 3],keep:=false,body:=
 (.seq (.ops [bX 2 4 0,mC 3 (.bool false)])
 (.seq (.ops [l1 4 1,lT 5 4 2,o 6 (.call (.t 4) [(.t 5)]),nT 7 6,mT 3 7])
 .ret))}
def aUk :aM:={np:=2,res:=[.tmp 4],keep:=false,body:=
 (.seq (.ops [mC 4 (.int .i64 0)])
 (.seq (.seq (.ops [mT 6 0,lN 7 6,mC 8 (.int .i64 0)])
 (.block 0 (.loop (.seq (.ops [bN 9 .lss (.t 8) (.t 7)])
 (.seq (.cond (.t 9)
 .skip
 (.exit 0))
 (.seq (.block 1 (.seq (.ops [mT 10 8,mT 5 10])
 (.seq (.ops [mT 11 1,mT 12 0,mT 13 5,iA 14 1 12 13,l1 15 14,o 16 (.call (.t 11) [(.t 15)])])
 (.cond (.t 16)
 (.seq (.ops [mT 17 5,mT 4 17])
 .ret)
 .skip))))
 (.ops [bN 18 .add (.t 8) (cI 1),mT 8 18])))))))
 (.seq (.ops [mC 4 (.int .i64 (-1))])
 .ret)))}
def aUl :aM:={np:=2,res:=[.tmp 4],keep:=false,body:=
 (.seq (.ops [mC 4 (.int .i64 0)])
 (.seq (.seq (.ops [mT 6 0,lN 7 6,mC 8 (.int .i64 0)])
 (.block 0 (.loop (.seq (.ops [bN 9 .lss (.t 8) (.t 7)])
 (.seq (.cond (.t 9)
 .skip
 (.exit 0))
 (.seq (.block 1 (.seq (.ops [mT 10 8,mT 5 10])
 (.seq (.ops [mT 11 1,mT 12 0,mT 13 5,iA 14 2 12 13,lT 15 2 14,o 16 (.call (.t 11) [(.t 15)])])
 (.cond (.t 16)
 (.seq (.ops [mT 17 5,mT 4 17])
 .ret)
 .skip))))
 (.ops [bN 18 .add (.t 8) (cI 1),mT 8 18])))))))
 (.seq (.ops [mC 4 (.int .i64 (-1))])
 .ret)))}
def aUm :aM:={np:=2,res:=[.tmp 4],keep:=false,body:=
 (.seq (.ops [mC 4 (.bool false)])
 (.seq (.ops [mT 5 0,mT 6 1,cL 7 300 [(.t 5),(.t 6)],bN 8 .geq (.t 7) (cI 0),mT 4 8])
 .ret))}
def aUn :aM:={np:=2,res:=[.tmp 3],keep:=false,body:=
 (.seq (.ops [bX 2 3 0,mC 3 (.bool false)])
 (.seq (.ops [l1 4 1,lT 5 3 2,o 6 (.call (.t 4) [(.t 5)]),nT 7 6,mT 3 7])
 .ret))}
def aUo :aM:={np:=2,res:=[.tmp 4],keep:=false,body:=
 (.seq (.ops [mC 4 (.int .i64 0)])
 (.seq (.seq (.ops [mT 6 0,lN 7 6,mC 8 (.int .i64 0)])
 (.block 0 (.loop (.seq (.ops [bN 9 .lss (.t 8) (.t 7)])
 (.seq (.cond (.t 9)
 .skip
 (.exit 0))
 (.seq (.block 1 (.seq (.ops [mT 10 8,mT 5 10])
 (.seq (.ops [mT 11 1,mT 12 0,mT 13 5,iA 14 4 12 13,lT 15 4 14,o 16 (.call (.t 11) [(.t 15)])])
 (.cond (.t 16)
 (.seq (.ops [mT 17 5,mT 4 17])
 .ret)
 .skip))))
 (.ops [bN 18 .add (.t 8) (cI 1),mT 8 18])))))))
 (.seq (.ops [mC 4 (.int .i64 (-1))])
 .ret)))}
def aUp :aM:={np:=2,res:=[.tmp 4],keep:=false,body:=
 (.seq (.ops [mC 4 (.int .i64 0)])
 (.seq (.seq (.ops [mT 6 0,lN 7 6,mC 8 (.int .i64 0)])
 (.block 0 (.loop (.seq (.ops [bN 9 .lss (.t 8) (.t 7)])
 (.seq (.cond (.t 9)
 .skip
 (.exit 0))
 (.seq (.block 1 (.seq (.ops [mT 10 8,mT 5 10])
 (.seq (.ops [mT 11 1,mT 12 0,mT 13 5,iA 14 3 12 13,lT 15 3 14,o 16 (.call (.t 11) [(.t 15)])])
 (.cond (.t 16)
 (.seq (.ops [mT 17 5,mT 4 17])
 .ret)
 .skip))))
 (.ops [bN 18 .add (.t 8) (cI 1),mT 8 18])))))))
 (.seq (.ops [mC 4 (.int .i64 (-1))])
 .ret)))}
def aUq :aM:={np:=3,res:=[.tmp 6],keep:=false,body:=
 (.seq (.ops [bX 3 0 0,bX 4 4 1,bX 5 4 2,mC 6 (.bool false)])
 (.seq (.ops [fA 7 3 5,l1 8 7,lN 9 8,cL 10 198 [(.t 9),(cI 1),(cI 5)],mT 11 10,gF 12 11 true 2 5,g1 13 11 true 12,gN 14 11 true 13,gF 15 11 true 3 5,
 g1 16 11 true 15,gN 17 11 true 16,gB 18 11 true .add (cI 1) (.t 17),gB 19 11 true .eql (.t 14) (.t 18),pA 20 11 19,mT 6 20])
 .ret))}
def aUr :aM:={np:=3,res:=[.tmp 6],keep:=false,body:=
 (.seq (.ops [bX 4 4 1,bX 5 4 2,mC 6 (.bool false)])
 (.seq (.ops [fA 7 2 5,l1 8 7,lN 9 8,mT 10 0,bN 11 .eql (.t 9) (.t 10),mT 6 11])
 .ret))}
def aUs :aM:={np:=3,res:=[.tmp 6],keep:=false,body:=
 (.seq (.ops [bX 3 0 0,bX 4 4 1,bX 5 4 2,mC 6 (.bool false)])
 (.seq (.draw [fA 7 1 5,l1 8 7,fA 9 0 4,fA 10 3 9,l1 11 10,lN 12 11,bN 13 .sub (.t 12) (cI 1),cL 14 198 [(.t 8),(cI 0),(.t 13)],mT 15 14,gF 16 15 true 2 5,
 g1 17 15 true 16,gN 18 15 true 17,gF 19 15 true 0 4,gF 20 15 true 3 19,g1 21 15 true 20,gF 22 15 true 1 5,g1 23 15 true 22,og 24 15 true (.ia 2 (.t 21) (.t 23)),
 gF 25 15 true 1 24,g1 26 15 true 25,gB 27 15 true .eql (.t 18) (.t 26),pA 28 15 27,mT 6 28]
 [])
 .ret))}
def tbl :List (Nat×aM):=[(13,aMy),(16,bB8),(17,bFw),(18,bFx),(19,bFy),(20,bB9),(22,bFz),(24,bCa),(27,bF0),(28,bF1),(29,bCb),(30,bCc),(31,bCd),(32,bCe),(36,aPo),(37,bCf),(40,bCg),(41,aWd),(42,bCh),(44,bF2),(47,aWe),(48,bCi),(51,bCj),(57,bCk),(58,bF3),(59,bF4),(60,bF5),(61,bCl),(62,aWf),(63,bCm),(64,bCn),(65,bCo),(66,bCp),(67,bCq),(68,bCr),(69,bCs),(70,bCt),(71,bF6),(72,bF7),(73,bF8),(74,bF9),(75,bCu),(76,aZi),(77,bCv),(78,bCw),(80,bCx),(81,aZj),(82,bCy),(83,bCz),(84,bC0),(85,bC1),(86,bC2),(87,bC3),(88,bC4),(89,bC5),(91,bC6),(92,bC7),(93,aMz),(94,aZk),(97,bC8),(101,aRn),(102,aZl),(103,aRo),(104,aZm),(105,aRp),(106,aM0),(107,aRq),(108,aM1),(109,aIy),(110,aM2),(111,aRr),(112,aRs),(113,aRt),(114,aRu),(115,aZn),(116,aRv),(117,aRw),(118,aRx),(119,aRy),(120,aRz),(121,aR0),(122,aR1),(123,aR2),(124,aR3),(125,aR4),(126,aR5),(127,aR6),(128,aIz),(129,aR7),(130,aR8),(131,aF5),(132,fU),(137,aR9),(141,aSa),(142,aSb),(143,aF6),(144,aI0),(145,aSc),(146,aSd),(147,aSe),(148,aSf),(149,aSg),(150,aSh),(151,aSi),(152,aSj),(153,aSk),(154,aM3),(155,aSl),(156,aSm),(157,aSn),(158,aSo),(159,aM4),(160,aA9),(161,wN),(162,aSp),(163,aSq),(164,aF7),(165,aSr),(166,aF8),(167,aM5),(168,aD4),(169,aSs),(175,aSt),(176,aSu),(177,aSv),(178,aSw),(179,aSx),(180,aSy),(181,aSz),(182,aS0),(183,aS1),(184,aS2),(185,aS3),(186,aS4),(187,aI1),(188,aI2),(189,vK),(198,aS5),(199,aS6),(200,aS7),(201,aS8),(202,aS9),(203,aTa),(204,aTb),(205,aF9),(206,aTc),(207,aTd),(208,aTe),(209,aTf),(210,aTg),(211,aTh),(212,aTi),(213,aTj),(214,aTk),(215,aTl),(216,aTm),(217,aTn),(218,aTo),(219,aTp),(223,aTq),(226,aTr),(227,aTs),(228,aTt),(229,aTu),(230,aTv),(231,aTw),(232,aTx),(233,aTy),(234,aTz),(235,aT0),(236,aT1),(237,aT2),(238,aT3),(239,aT4),(240,aT5),(241,aT6),(242,aT7),(243,aT8),(244,aT9),(245,aUa),(246,aUb),(247,aUc),(248,aUd),(275,aUe),(276,aUf),(277,aUg),(278,aUh),(279,aUi),(280,aUj),(281,aUk),(282,aUl),(283,aUm),(284,aUn),(299,aUo),(300,aUp),(321,aUq),(322,aUr),(323,aUs)]
def L :cV:=fun f=>tbl.lookup f
theorem g13 :aH Tryz.prog (13,aMy):=aF Tryz.func13 (by kernel_rfl)
theorem g16 :aH Tryz.prog (16,bB8):=aF Tryz.func16 (by kernel_rfl)
theorem g17 :aH Tryz.prog (17,bFw):=aF Tryz.func17 (by kernel_rfl)
theorem g18 :aH Tryz.prog (18,bFx):=aF Tryz.func18 (by kernel_rfl)
theorem g19 :aH Tryz.prog (19,bFy):=aF Tryz.func19 (by kernel_rfl)
theorem g20 :aH Tryz.prog (20,bB9):=aF Tryz.func20 (by kernel_rfl)
theorem g22 :aH Tryz.prog (22,bFz):=aF Tryz.func22 (by kernel_rfl)
theorem g24 :aH Tryz.prog (24,bCa):=aF Tryz.func24 (by kernel_rfl)
theorem g27 :aH Tryz.prog (27,bF0):=aF Tryz.func27 (by kernel_rfl)
theorem g28 :aH Tryz.prog (28,bF1):=aF Tryz.func28 (by kernel_rfl)
theorem g29 :aH Tryz.prog (29,bCb):=aF Tryz.func29 (by kernel_rfl)
theorem g30 :aH Tryz.prog (30,bCc):=⟨Tryz.f30,fun| .func 76=>true|_=>false,false,false,Tryz.func30,by kernel_rfl⟩
theorem g31 :aH Tryz.prog (31,bCd):=aF Tryz.func31 (by kernel_rfl)
theorem g32 :aH Tryz.prog (32,bCe):=aF Tryz.func32 (by kernel_rfl)
theorem g36 :aH Tryz.prog (36,aPo):=⟨Tryz.f36,fun| .func 81| .func 82=>true|_=>false,false,false,Tryz.func36,by kernel_rfl⟩
theorem g37 :aH Tryz.prog (37,bCf):=aF Tryz.func37 (by kernel_rfl)
theorem g40 :aH Tryz.prog (40,bCg):=aF Tryz.func40 (by kernel_rfl)
theorem g41 :aH Tryz.prog (41,aWd):=⟨Tryz.f41,fun| .func 81| .func 89=>true|_=>false,false,false,Tryz.func41,by kernel_rfl⟩
theorem g42 :aH Tryz.prog (42,bCh):=aF Tryz.func42 (by kernel_rfl)
theorem g44 :aH Tryz.prog (44,bF2):=aF Tryz.func44 (by kernel_rfl)
theorem g47 :aH Tryz.prog (47,aWe):=aF Tryz.func47 (by kernel_rfl)
theorem g48 :aH Tryz.prog (48,bCi):=aF Tryz.func48 (by kernel_rfl)
theorem g51 :aH Tryz.prog (51,bCj):=aF Tryz.func51 (by kernel_rfl)
theorem g57 :aH Tryz.prog (57,bCk):=aF Tryz.func57 (by kernel_rfl)
theorem g58 :aH Tryz.prog (58,bF3):=aF Tryz.func58 (by kernel_rfl)
theorem g59 :aH Tryz.prog (59,bF4):=aF Tryz.func59 (by kernel_rfl)
theorem g60 :aH Tryz.prog (60,bF5):=aF Tryz.func60 (by kernel_rfl)
theorem g61 :aH Tryz.prog (61,bCl):=aF Tryz.func61 (by kernel_rfl)
theorem g62 :aH Tryz.prog (62,aWf):=⟨Tryz.f62,fun _=>false,true,true,Tryz.func62,by kernel_rfl⟩
theorem g63 :aH Tryz.prog (63,bCm):=aF Tryz.func63 (by kernel_rfl)
theorem g64 :aH Tryz.prog (64,bCn):=aF Tryz.func64 (by kernel_rfl)
theorem g65 :aH Tryz.prog (65,bCo):=aF Tryz.func65 (by kernel_rfl)
theorem g66 :aH Tryz.prog (66,bCp):=aF Tryz.func66 (by kernel_rfl)
theorem g67 :aH Tryz.prog (67,bCq):=aF Tryz.func67 (by kernel_rfl)
theorem g68 :aH Tryz.prog (68,bCr):=⟨Tryz.f68,fun| .func 114=>true|_=>false,false,false,Tryz.func68,by kernel_rfl⟩
theorem g69 :aH Tryz.prog (69,bCs):=aF Tryz.func69 (by kernel_rfl)
theorem g70 :aH Tryz.prog (70,bCt):=aF Tryz.func70 (by kernel_rfl)
theorem g71 :aH Tryz.prog (71,bF6):=aF Tryz.func71 (by kernel_rfl)
theorem g72 :aH Tryz.prog (72,bF7):=aF Tryz.func72 (by kernel_rfl)
theorem g73 :aH Tryz.prog (73,bF8):=aF Tryz.func73 (by kernel_rfl)
theorem g74 :aH Tryz.prog (74,bF9):=aF Tryz.func74 (by kernel_rfl)
theorem g75 :aH Tryz.prog (75,bCu):=aF Tryz.func75 (by kernel_rfl)
theorem g76 :aH Tryz.prog (76,aZi):=aF Tryz.func76 (by kernel_rfl)
theorem g77 :aH Tryz.prog (77,bCv):=aF Tryz.func77 (by kernel_rfl)
theorem g78 :aH Tryz.prog (78,bCw):=aF Tryz.func78 (by kernel_rfl)
theorem g80 :aH Tryz.prog (80,bCx):=aF Tryz.func80 (by kernel_rfl)
theorem g81 :aH Tryz.prog (81,aZj):=aF Tryz.func81 (by kernel_rfl)
theorem g82 :aH Tryz.prog (82,bCy):=aF Tryz.func82 (by kernel_rfl)
theorem g83 :aH Tryz.prog (83,bCz):=aF Tryz.func83 (by kernel_rfl)
theorem g84 :aH Tryz.prog (84,bC0):=aF Tryz.func84 (by kernel_rfl)
theorem g85 :aH Tryz.prog (85,bC1):=aF Tryz.func85 (by kernel_rfl)
theorem g86 :aH Tryz.prog (86,bC2):=aF Tryz.func86 (by kernel_rfl)
theorem g87 :aH Tryz.prog (87,bC3):=aF Tryz.func87 (by kernel_rfl)
theorem g88 :aH Tryz.prog (88,bC4):=aF Tryz.func88 (by kernel_rfl)
theorem g89 :aH Tryz.prog (89,bC5):=⟨Tryz.f89,fun| .func 76=>true|_=>false,false,false,Tryz.func89,by kernel_rfl⟩
theorem g91 :aH Tryz.prog (91,bC6):=aF Tryz.func91 (by kernel_rfl)
theorem g92 :aH Tryz.prog (92,bC7):=aF Tryz.func92 (by kernel_rfl)
theorem g93 :aH Tryz.prog (93,aMz):=aF Tryz.func93 (by kernel_rfl)
theorem g94 :aH Tryz.prog (94,aZk):=aF Tryz.func94 (by kernel_rfl)
theorem g97 :aH Tryz.prog (97,bC8):=aF Tryz.func97 (by kernel_rfl)
theorem bQh :aH Tryz.prog (101,aRn):=aF Tryz.func101 (by kernel_rfl)
theorem bQi :aH Tryz.prog (102,aZl):=aF Tryz.func102 (by kernel_rfl)
theorem bQj :aH Tryz.prog (103,aRo):=aF Tryz.func103 (by kernel_rfl)
theorem bQk :aH Tryz.prog (104,aZm):=aF Tryz.func104 (by kernel_rfl)
theorem bQl :aH Tryz.prog (105,aRp):=aF Tryz.func105 (by kernel_rfl)
theorem bQm :aH Tryz.prog (106,aM0):=aF Tryz.func106 (by kernel_rfl)
theorem bQn :aH Tryz.prog (107,aRq):=⟨Tryz.f107,fun| .tmp 7| .tmp 20=>true|_=>false,false,false,Tryz.func107,by kernel_rfl⟩
theorem bQo :aH Tryz.prog (108,aM1):=⟨Tryz.f108,fun| .tmp 22| .tmp 29=>true|_=>false,false,false,Tryz.func108,by kernel_rfl⟩
theorem bQp :aH Tryz.prog (109,aIy):=⟨Tryz.f109,fun _=>false,true,true,Tryz.func109,by kernel_rfl⟩
theorem bQq :aH Tryz.prog (110,aM2):=aF Tryz.func110 (by kernel_rfl)
theorem bQr :aH Tryz.prog (111,aRr):=aF Tryz.func111 (by kernel_rfl)
theorem bQs :aH Tryz.prog (112,aRs):=aF Tryz.func112 (by kernel_rfl)
theorem bQt :aH Tryz.prog (113,aRt):=aF Tryz.func113 (by kernel_rfl)
theorem bQu :aH Tryz.prog (114,aRu):=aF Tryz.func114 (by kernel_rfl)
theorem bQv :aH Tryz.prog (115,aZn):=aF Tryz.func115 (by kernel_rfl)
theorem bQw :aH Tryz.prog (116,aRv):=aF Tryz.func116 (by kernel_rfl)
theorem bQx :aH Tryz.prog (117,aRw):=aF Tryz.func117 (by kernel_rfl)
theorem bQy :aH Tryz.prog (118,aRx):=aF Tryz.func118 (by kernel_rfl)
theorem bQz :aH Tryz.prog (119,aRy):=aF Tryz.func119 (by kernel_rfl)
theorem bQ0 :aH Tryz.prog (120,aRz):=aF Tryz.func120 (by kernel_rfl)
theorem bQ1 :aH Tryz.prog (121,aR0):=aF Tryz.func121 (by kernel_rfl)
theorem bQ2 :aH Tryz.prog (122,aR1):=aF Tryz.func122 (by kernel_rfl)
theorem bQ3 :aH Tryz.prog (123,aR2):=aF Tryz.func123 (by kernel_rfl)
theorem bQ4 :aH Tryz.prog (124,aR3):=aF Tryz.func124 (by kernel_rfl)
theorem bQ5 :aH Tryz.prog (125,aR4):=aF Tryz.func125 (by kernel_rfl)
theorem bQ6 :aH Tryz.prog (126,aR5):=aF Tryz.func126 (by kernel_rfl)
theorem bQ7 :aH Tryz.prog (127,aR6):=⟨Tryz.f127,fun| .func 154=>true|_=>false,false,false,Tryz.func127,by kernel_rfl⟩
theorem bQ8 :aH Tryz.prog (128,aIz):=aF Tryz.func128 (by kernel_rfl)
theorem bQ9 :aH Tryz.prog (129,aR7):=aF Tryz.func129 (by kernel_rfl)
theorem bRa :aH Tryz.prog (130,aR8):=aF Tryz.func130 (by kernel_rfl)
theorem bRb :aH Tryz.prog (131,aF5):=aF Tryz.func131 (by kernel_rfl)
theorem bRc :aH Tryz.prog (132,fU):=aF Tryz.func132 (by kernel_rfl)
theorem bRd :aH Tryz.prog (137,aR9):=aF Tryz.func137 (by kernel_rfl)
theorem bRe :aH Tryz.prog (141,aSa):=aF Tryz.func141 (by kernel_rfl)
theorem bRf :aH Tryz.prog (142,aSb):=aF Tryz.func142 (by kernel_rfl)
theorem bRg :aH Tryz.prog (143,aF6):=aF Tryz.func143 (by kernel_rfl)
theorem bRh :aH Tryz.prog (144,aI0):=⟨Tryz.f144,fun _=>false,true,true,Tryz.func144,by kernel_rfl⟩
theorem bRi :aH Tryz.prog (145,aSc):=aF Tryz.func145 (by kernel_rfl)
theorem bRj :aH Tryz.prog (146,aSd):=aF Tryz.func146 (by kernel_rfl)
theorem bRk :aH Tryz.prog (147,aSe):=aF Tryz.func147 (by kernel_rfl)
theorem bRl :aH Tryz.prog (148,aSf):=aF Tryz.func148 (by kernel_rfl)
theorem bRm :aH Tryz.prog (149,aSg):=aF Tryz.func149 (by kernel_rfl)
theorem bRn :aH Tryz.prog (150,aSh):=aF Tryz.func150 (by kernel_rfl)
theorem bRo :aH Tryz.prog (151,aSi):=aF Tryz.func151 (by kernel_rfl)
theorem bRp :aH Tryz.prog (152,aSj):=aF Tryz.func152 (by kernel_rfl)
theorem bRq :aH Tryz.prog (153,aSk):=aF Tryz.func153 (by kernel_rfl)
theorem bRr :aH Tryz.prog (154,aM3):=aF Tryz.func154 (by kernel_rfl)
theorem bRs :aH Tryz.prog (155,aSl):=aF Tryz.func155 (by kernel_rfl)
theorem bRt :aH Tryz.prog (156,aSm):=⟨Tryz.f156,fun| .func 127=>true|_=>false,false,false,Tryz.func156,by kernel_rfl⟩
theorem bRu :aH Tryz.prog (157,aSn):=aF Tryz.func157 (by kernel_rfl)
theorem bRv :aH Tryz.prog (158,aSo):=aF Tryz.func158 (by kernel_rfl)
theorem bRw :aH Tryz.prog (159,aM4):=⟨Tryz.f159,fun| .func 154| .func 156=>true|_=>false,false,false,Tryz.func159,by kernel_rfl⟩
theorem bRx :aH Tryz.prog (160,aA9):=aF Tryz.func160 (by kernel_rfl)
theorem bRy :aH Tryz.prog (161,wN):=aF Tryz.func161 (by kernel_rfl)
theorem bRz :aH Tryz.prog (162,aSp):=aF Tryz.func162 (by kernel_rfl)
theorem bR0 :aH Tryz.prog (163,aSq):=⟨Tryz.f163,fun| .func 154=>true|_=>false,false,false,Tryz.func163,by kernel_rfl⟩
theorem bR1 :aH Tryz.prog (164,aF7):=aF Tryz.func164 (by kernel_rfl)
theorem bR2 :aH Tryz.prog (165,aSr):=⟨Tryz.f165,fun| .func 159=>true|_=>false,false,false,Tryz.func165,by kernel_rfl⟩
theorem bR3 :aH Tryz.prog (166,aF8):=aF Tryz.func166 (by kernel_rfl)
theorem bR4 :aH Tryz.prog (167,aM5):=aF Tryz.func167 (by kernel_rfl)
theorem bR5 :aH Tryz.prog (168,aD4):=aF Tryz.func168 (by kernel_rfl)
theorem bR6 :aH Tryz.prog (169,aSs):=⟨Tryz.f169,fun| .func 154=>true|_=>false,false,false,Tryz.func169,by kernel_rfl⟩
theorem bR7 :aH Tryz.prog (175,aSt):=aF Tryz.func175 (by kernel_rfl)
theorem bR8 :aH Tryz.prog (176,aSu):=aF Tryz.func176 (by kernel_rfl)
theorem bR9 :aH Tryz.prog (177,aSv):=aF Tryz.func177 (by kernel_rfl)
theorem bSa :aH Tryz.prog (178,aSw):=aF Tryz.func178 (by kernel_rfl)
theorem bSb :aH Tryz.prog (179,aSx):=aF Tryz.func179 (by kernel_rfl)
theorem bSc :aH Tryz.prog (180,aSy):=aF Tryz.func180 (by kernel_rfl)
theorem bSd :aH Tryz.prog (181,aSz):=aF Tryz.func181 (by kernel_rfl)
theorem bSe :aH Tryz.prog (182,aS0):=aF Tryz.func182 (by kernel_rfl)
theorem bSf :aH Tryz.prog (183,aS1):=aF Tryz.func183 (by kernel_rfl)
theorem bSg :aH Tryz.prog (184,aS2):=aF Tryz.func184 (by kernel_rfl)
theorem bSh :aH Tryz.prog (185,aS3):=aF Tryz.func185 (by kernel_rfl)
theorem bSi :aH Tryz.prog (186,aS4):=aF Tryz.func186 (by kernel_rfl)
theorem bSj :aH Tryz.prog (187,aI1):=aF Tryz.func187 (by kernel_rfl)
theorem bSk :aH Tryz.prog (188,aI2):=aF Tryz.func188 (by kernel_rfl)
theorem bSl :aH Tryz.prog (189,vK):=aF Tryz.func189 (by kernel_rfl)
theorem bSm :aH Tryz.prog (198,aS5):=aF Tryz.func198 (by kernel_rfl)
theorem bSn :aH Tryz.prog (199,aS6):=aF Tryz.func199 (by kernel_rfl)
theorem bSo :aH Tryz.prog (200,aS7):=aF Tryz.func200 (by kernel_rfl)
theorem bSp :aH Tryz.prog (201,aS8):=aF Tryz.func201 (by kernel_rfl)
theorem bSq :aH Tryz.prog (202,aS9):=aF Tryz.func202 (by kernel_rfl)
theorem bSr :aH Tryz.prog (203,aTa):=aF Tryz.func203 (by kernel_rfl)
theorem bSs :aH Tryz.prog (204,aTb):=aF Tryz.func204 (by kernel_rfl)
theorem bSt :aH Tryz.prog (205,aF9):=aF Tryz.func205 (by kernel_rfl)
theorem bSu :aH Tryz.prog (206,aTc):=aF Tryz.func206 (by kernel_rfl)
theorem bSv :aH Tryz.prog (207,aTd):=aF Tryz.func207 (by kernel_rfl)
theorem bSw :aH Tryz.prog (208,aTe):=aF Tryz.func208 (by kernel_rfl)
theorem bSx :aH Tryz.prog (209,aTf):=aF Tryz.func209 (by kernel_rfl)
theorem bSy :aH Tryz.prog (210,aTg):=aF Tryz.func210 (by kernel_rfl)
theorem bSz :aH Tryz.prog (211,aTh):=aF Tryz.func211 (by kernel_rfl)
theorem bS0 :aH Tryz.prog (212,aTi):=aF Tryz.func212 (by kernel_rfl)
theorem bS1 :aH Tryz.prog (213,aTj):=aF Tryz.func213 (by kernel_rfl)
theorem bS2 :aH Tryz.prog (214,aTk):=aF Tryz.func214 (by kernel_rfl)
theorem bS3 :aH Tryz.prog (215,aTl):=⟨Tryz.f215,fun| .func 246=>true|_=>false,false,false,Tryz.func215,by kernel_rfl⟩
theorem bS4 :aH Tryz.prog (216,aTm):=aF Tryz.func216 (by kernel_rfl)
theorem bS5 :aH Tryz.prog (217,aTn):=aF Tryz.func217 (by kernel_rfl)
theorem bS6 :aH Tryz.prog (218,aTo):=aF Tryz.func218 (by kernel_rfl)
theorem bS7 :aH Tryz.prog (219,aTp):=aF Tryz.func219 (by kernel_rfl)
theorem bS8 :aH Tryz.prog (223,aTq):=aF Tryz.func223 (by kernel_rfl)
theorem bS9 :aH Tryz.prog (226,aTr):=aF Tryz.func226 (by kernel_rfl)
theorem bTa :aH Tryz.prog (227,aTs):=aF Tryz.func227 (by kernel_rfl)
theorem bTb :aH Tryz.prog (228,aTt):=aF Tryz.func228 (by kernel_rfl)
theorem bTc :aH Tryz.prog (229,aTu):=aF Tryz.func229 (by kernel_rfl)
theorem bTd :aH Tryz.prog (230,aTv):=aF Tryz.func230 (by kernel_rfl)
theorem bTe :aH Tryz.prog (231,aTw):=aF Tryz.func231 (by kernel_rfl)
theorem bTf :aH Tryz.prog (232,aTx):=aF Tryz.func232 (by kernel_rfl)
theorem bTg :aH Tryz.prog (233,aTy):=aF Tryz.func233 (by kernel_rfl)
theorem bTh :aH Tryz.prog (234,aTz):=aF Tryz.func234 (by kernel_rfl)
theorem bTi :aH Tryz.prog (235,aT0):=aF Tryz.func235 (by kernel_rfl)
theorem bTj :aH Tryz.prog (236,aT1):=aF Tryz.func236 (by kernel_rfl)
theorem bTk :aH Tryz.prog (237,aT2):=aF Tryz.func237 (by kernel_rfl)
theorem bTl :aH Tryz.prog (238,aT3):=aF Tryz.func238 (by kernel_rfl)
theorem bTm :aH Tryz.prog (239,aT4):=aF Tryz.func239 (by kernel_rfl)
theorem bTn :aH Tryz.prog (240,aT5):=aF Tryz.func240 (by kernel_rfl)
theorem bTo :aH Tryz.prog (241,aT6):=aF Tryz.func241 (by kernel_rfl)
theorem bTp :aH Tryz.prog (242,aT7):=aF Tryz.func242 (by kernel_rfl)
theorem bTq :aH Tryz.prog (243,aT8):=aF Tryz.func243 (by kernel_rfl)
theorem bTr :aH Tryz.prog (244,aT9):=aF Tryz.func244 (by kernel_rfl)
theorem bTs :aH Tryz.prog (245,aUa):=aF Tryz.func245 (by kernel_rfl)
theorem bTt :aH Tryz.prog (246,aUb):=aF Tryz.func246 (by kernel_rfl)
theorem bTu :aH Tryz.prog (247,aUc):=⟨Tryz.f247,fun| .tmp 8=>true|_=>false,false,false,Tryz.func247,by kernel_rfl⟩
theorem bTv :aH Tryz.prog (248,aUd):=aF Tryz.func248 (by kernel_rfl)
theorem bTw :aH Tryz.prog (275,aUe):=aF Tryz.func275 (by kernel_rfl)
theorem bTx :aH Tryz.prog (276,aUf):=aF Tryz.func276 (by kernel_rfl)
theorem bTy :aH Tryz.prog (277,aUg):=aF Tryz.func277 (by kernel_rfl)
theorem bTz :aH Tryz.prog (278,aUh):=aF Tryz.func278 (by kernel_rfl)
theorem bT0 :aH Tryz.prog (279,aUi):=aF Tryz.func279 (by kernel_rfl)
theorem bT1 :aH Tryz.prog (280,aUj):=aF Tryz.func280 (by kernel_rfl)
theorem bT2 :aH Tryz.prog (281,aUk):=aF Tryz.func281 (by kernel_rfl)
theorem bT3 :aH Tryz.prog (282,aUl):=aF Tryz.func282 (by kernel_rfl)
theorem bT4 :aH Tryz.prog (283,aUm):=aF Tryz.func283 (by kernel_rfl)
theorem bT5 :aH Tryz.prog (284,aUn):=aF Tryz.func284 (by kernel_rfl)
theorem bT6 :aH Tryz.prog (299,aUo):=aF Tryz.func299 (by kernel_rfl)
theorem bT7 :aH Tryz.prog (300,aUp):=aF Tryz.func300 (by kernel_rfl)
theorem bT8 :aH Tryz.prog (321,aUq):=aF Tryz.func321 (by kernel_rfl)
theorem bT9 :aH Tryz.prog (322,aUr):=aF Tryz.func322 (by kernel_rfl)
theorem bUa :aH Tryz.prog (323,aUs):=aF Tryz.func323 (by kernel_rfl)
theorem bUb :L 13=some aMy:=rfl
theorem bUc :L 16=some bB8:=rfl
theorem bWt :L 17=some bFw:=rfl
theorem bWu :L 18=some bFx:=rfl
theorem bWv :L 19=some bFy:=rfl
theorem bUd :L 20=some bB9:=rfl
theorem bWw :L 22=some bFz:=rfl
theorem bUe :L 24=some bCa:=rfl
theorem bWx :L 27=some bF0:=rfl
theorem bWy :L 28=some bF1:=rfl
theorem bUf :L 29=some bCb:=rfl
theorem bUg :L 30=some bCc:=rfl
theorem bUh :L 31=some bCd:=rfl
theorem bUi :L 32=some bCe:=rfl
theorem bUj :L 36=some aPo:=rfl
theorem bUk :L 37=some bCf:=rfl
theorem bUl :L 40=some bCg:=rfl
theorem bUm :L 41=some aWd:=rfl
theorem bUn :L 42=some bCh:=rfl
theorem bWz :L 44=some bF2:=rfl
theorem bUo :L 47=some aWe:=rfl
theorem bUp :L 48=some bCi:=rfl
theorem bUq :L 51=some bCj:=rfl
theorem bUr :L 57=some bCk:=rfl
theorem bW0 :L 58=some bF3:=rfl
theorem bW1 :L 59=some bF4:=rfl
theorem bW2 :L 60=some bF5:=rfl
theorem bUs :L 61=some bCl:=rfl
theorem bI7 :L 62=some aWf:=rfl
theorem bUt :L 63=some bCm:=rfl
theorem bUu :L 64=some bCn:=rfl
theorem bUv :L 65=some bCo:=rfl
theorem bUw :L 66=some bCp:=rfl
theorem bUx :L 67=some bCq:=rfl
theorem bUy :L 68=some bCr:=rfl
theorem bUz :L 69=some bCs:=rfl
theorem bU0 :L 70=some bCt:=rfl
theorem bW3 :L 71=some bF6:=rfl
theorem bW4 :L 72=some bF7:=rfl
theorem bW5 :L 73=some bF8:=rfl
theorem bW6 :L 74=some bF9:=rfl
theorem bU1 :L 75=some bCu:=rfl
theorem bI8 :L 76=some aZi:=rfl
theorem bU2 :L 77=some bCv:=rfl
theorem bU3 :L 78=some bCw:=rfl
theorem bU4 :L 80=some bCx:=rfl
theorem bI9 :L 81=some aZj:=rfl
theorem bU5 :L 82=some bCy:=rfl
theorem bU6 :L 83=some bCz:=rfl
theorem bU7 :L 84=some bC0:=rfl
theorem bU8 :L 85=some bC1:=rfl
theorem bU9 :L 86=some bC2:=rfl
theorem bVa :L 87=some bC3:=rfl
theorem bVb :L 88=some bC4:=rfl
theorem bVc :L 89=some bC5:=rfl
theorem bVd :L 91=some bC6:=rfl
theorem bVe :L 92=some bC7:=rfl
theorem aZo :L 93=some aMz:=rfl
theorem bVf :L 94=some aZk:=rfl
theorem bVg :L 97=some bC8:=rfl
theorem bJa :L 101=some aRn:=rfl
theorem bWq :L 102=some aZl:=rfl
theorem bJb :L 103=some aRo:=rfl
theorem bWr :L 104=some aZm:=rfl
theorem bJc :L 105=some aRp:=rfl
theorem bEb :L 106=some aM0:=rfl
theorem bJd :L 107=some aRq:=rfl
theorem bEc :L 108=some aM1:=rfl
theorem bEd :L 109=some aIy:=rfl
theorem bEe :L 110=some aM2:=rfl
theorem bJe :L 111=some aRr:=rfl
theorem bJf :L 112=some aRs:=rfl
theorem bJg :L 113=some aRt:=rfl
theorem bJh :L 114=some aRu:=rfl
theorem bWs :L 115=some aZn:=rfl
theorem bJi :L 116=some aRv:=rfl
theorem bJj :L 117=some aRw:=rfl
theorem bJk :L 118=some aRx:=rfl
theorem bJl :L 119=some aRy:=rfl
theorem bJm :L 120=some aRz:=rfl
theorem bJn :L 121=some aR0:=rfl
theorem bJo :L 122=some aR1:=rfl
theorem bJp :L 123=some aR2:=rfl
theorem bJq :L 124=some aR3:=rfl
theorem bJr :L 125=some aR4:=rfl
theorem bJs :L 126=some aR5:=rfl
theorem bEf :L 127=some aR6:=rfl
theorem bJt :L 128=some aIz:=rfl
theorem bJu :L 129=some aR7:=rfl
theorem bJv :L 130=some aR8:=rfl
theorem bJw :L 131=some aF5:=rfl
theorem gV :L 132=some fU:=rfl
theorem bJx :L 137=some aR9:=rfl
theorem bJy :L 141=some aSa:=rfl
theorem bJz :L 142=some aSb:=rfl
theorem bEg :L 143=some aF6:=rfl
theorem bEh :L 144=some aI0:=rfl
theorem bJ0 :L 145=some aSc:=rfl
theorem bJ1 :L 146=some aSd:=rfl
theorem bJ2 :L 147=some aSe:=rfl
theorem bJ3 :L 148=some aSf:=rfl
theorem bJ4 :L 149=some aSg:=rfl
theorem bJ5 :L 150=some aSh:=rfl
theorem bJ6 :L 151=some aSi:=rfl
theorem bJ7 :L 152=some aSj:=rfl
theorem bJ8 :L 153=some aSk:=rfl
theorem bJ9 :L 154=some aM3:=rfl
theorem bKa :L 155=some aSl:=rfl
theorem bEi :L 156=some aSm:=rfl
theorem bKb :L 157=some aSn:=rfl
theorem bKc :L 158=some aSo:=rfl
theorem bEj :L 159=some aM4:=rfl
theorem bEk :L 160=some aA9:=rfl
theorem aD5 :L 161=some wN:=rfl
theorem bKd :L 162=some aSp:=rfl
theorem bKe :L 163=some aSq:=rfl
theorem aUt :L 164=some aF7:=rfl
theorem bKf :L 165=some aSr:=rfl
theorem aUu :L 166=some aF8:=rfl
theorem bKg :L 167=some aM5:=rfl
theorem aM6 :L 168=some aD4:=rfl
theorem bKh :L 169=some aSs:=rfl
theorem bKi :L 175=some aSt:=rfl
theorem bKj :L 176=some aSu:=rfl
theorem bKk :L 177=some aSv:=rfl
theorem bKl :L 178=some aSw:=rfl
theorem bKm :L 179=some aSx:=rfl
theorem bKn :L 180=some aSy:=rfl
theorem bKo :L 181=some aSz:=rfl
theorem bKp :L 182=some aS0:=rfl
theorem bKq :L 183=some aS1:=rfl
theorem bKr :L 184=some aS2:=rfl
theorem bKs :L 185=some aS3:=rfl
theorem bKt :L 186=some aS4:=rfl
theorem bKu :L 187=some aI1:=rfl
theorem bKv :L 188=some aI2:=rfl
theorem aBa :L 189=some vK:=rfl
theorem bKw :L 198=some aS5:=rfl
theorem bKx :L 199=some aS6:=rfl
theorem bKy :L 200=some aS7:=rfl
theorem bKz :L 201=some aS8:=rfl
theorem bK0 :L 202=some aS9:=rfl
theorem bK1 :L 203=some aTa:=rfl
theorem bK2 :L 204=some aTb:=rfl
theorem bK3 :L 205=some aF9:=rfl
theorem bK4 :L 206=some aTc:=rfl
theorem bK5 :L 207=some aTd:=rfl
theorem bK6 :L 208=some aTe:=rfl
theorem bK7 :L 209=some aTf:=rfl
theorem bK8 :L 210=some aTg:=rfl
theorem bK9 :L 211=some aTh:=rfl
theorem bLa :L 212=some aTi:=rfl
theorem bLb :L 213=some aTj:=rfl
theorem bLc :L 214=some aTk:=rfl
theorem bLd :L 215=some aTl:=rfl
theorem bLe :L 216=some aTm:=rfl
theorem bLf :L 217=some aTn:=rfl
theorem bLg :L 218=some aTo:=rfl
theorem bLh :L 219=some aTp:=rfl
theorem bLi :L 223=some aTq:=rfl
theorem bLj :L 226=some aTr:=rfl
theorem bLk :L 227=some aTs:=rfl
theorem bLl :L 228=some aTt:=rfl
theorem bLm :L 229=some aTu:=rfl
theorem bLn :L 230=some aTv:=rfl
theorem bLo :L 231=some aTw:=rfl
theorem bLp :L 232=some aTx:=rfl
theorem bLq :L 233=some aTy:=rfl
theorem bLr :L 234=some aTz:=rfl
theorem bLs :L 235=some aT0:=rfl
theorem bLt :L 236=some aT1:=rfl
theorem bLu :L 237=some aT2:=rfl
theorem bLv :L 238=some aT3:=rfl
theorem bLw :L 239=some aT4:=rfl
theorem bLx :L 240=some aT5:=rfl
theorem bLy :L 241=some aT6:=rfl
theorem bLz :L 242=some aT7:=rfl
theorem bL0 :L 243=some aT8:=rfl
theorem bL1 :L 244=some aT9:=rfl
theorem bL2 :L 245=some aUa:=rfl
theorem bL3 :L 246=some aUb:=rfl
theorem bL4 :L 247=some aUc:=rfl
theorem bL5 :L 248=some aUd:=rfl
theorem bL6 :L 275=some aUe:=rfl
theorem bL7 :L 276=some aUf:=rfl
theorem bL8 :L 277=some aUg:=rfl
theorem bL9 :L 278=some aUh:=rfl
theorem bMa :L 279=some aUi:=rfl
theorem bMb :L 280=some aUj:=rfl
theorem bMc :L 281=some aUk:=rfl
theorem bMd :L 282=some aUl:=rfl
theorem bMe :L 283=some aUm:=rfl
theorem bMf :L 284=some aUn:=rfl
theorem bMg :L 299=some aUo:=rfl
theorem bMh :L 300=some aUp:=rfl
theorem bMi :L 321=some aUq:=rfl
theorem bMj :L 322=some aUr:=rfl
theorem bMk :L 323=some aUs:=rfl
set_option maxRecDepth 100000 in
theorem bVh :tE Tryz.prog L:=bBw fun p hp=>by
 simp only[tbl,bYe,List.not_mem_nil,or_false]at hp;rcases hp with rfl|rfl|rfl|rfl|rfl|rfl|rfl|rfl|rfl|rfl|rfl|rfl|rfl|rfl|rfl|rfl|rfl|rfl|rfl|rfl|rfl|rfl|rfl|rfl|rfl|rfl|rfl|rfl|rfl|rfl|rfl|rfl|rfl|rfl|rfl|rfl|rfl|rfl|rfl|rfl|rfl|rfl|rfl|rfl|rfl|rfl|rfl|rfl|rfl|rfl|rfl|rfl|rfl|rfl|rfl|rfl|rfl|rfl|rfl|rfl|rfl|rfl|rfl|rfl|rfl|rfl|rfl|rfl|rfl|rfl|rfl|rfl|rfl|rfl|rfl|rfl|rfl|rfl|rfl|rfl|rfl|rfl|rfl|rfl|rfl|rfl|rfl|rfl|rfl|rfl|rfl|rfl|rfl|rfl|rfl|rfl|rfl|rfl|rfl|rfl|rfl|rfl|rfl|rfl|rfl|rfl|rfl|rfl|rfl|rfl|rfl|rfl|rfl|rfl|rfl|rfl|rfl|rfl|rfl|rfl|rfl|rfl|rfl|rfl|rfl|rfl|rfl|rfl|rfl|rfl|rfl|rfl|rfl|rfl|rfl|rfl|rfl|rfl|rfl|rfl|rfl|rfl|rfl|rfl|rfl|rfl|rfl|rfl|rfl|rfl|rfl|rfl|rfl|rfl|rfl|rfl|rfl|rfl|rfl|rfl|rfl|rfl|rfl|rfl|rfl|rfl|rfl|rfl|rfl|rfl|rfl|rfl|rfl|rfl|rfl|rfl|rfl|rfl|rfl|rfl|rfl|rfl|rfl|rfl|rfl|rfl|rfl|rfl|rfl|rfl|rfl|rfl|rfl|rfl|rfl|rfl|rfl|rfl
 ·exact g13
 ·exact g16
 ·exact g17
 ·exact g18
 ·exact g19
 ·exact g20
 ·exact g22
 ·exact g24
 ·exact g27
 ·exact g28
 ·exact g29
 ·exact g30
 ·exact g31
 ·exact g32
 ·exact g36
 ·exact g37
 ·exact g40
 ·exact g41
 ·exact g42
 ·exact g44
 ·exact g47
 ·exact g48
 ·exact g51
 ·exact g57
 ·exact g58
 ·exact g59
 ·exact g60
 ·exact g61
 ·exact g62
 ·exact g63
 ·exact g64
 ·exact g65
 ·exact g66
 ·exact g67
 ·exact g68
 ·exact g69
 ·exact g70
 ·exact g71
 ·exact g72
 ·exact g73
 ·exact g74
 ·exact g75
 ·exact g76
 ·exact g77
 ·exact g78
 ·exact g80
 ·exact g81
 ·exact g82
 ·exact g83
 ·exact g84
 ·exact g85
 ·exact g86
 ·exact g87
 ·exact g88
 ·exact g89
 ·exact g91
 ·exact g92
 ·exact g93
 ·exact g94
 ·exact g97
 ·exact bQh
 ·exact bQi
 ·exact bQj
 ·exact bQk
 ·exact bQl
 ·exact bQm
 ·exact bQn
 ·exact bQo
 ·exact bQp
 ·exact bQq
 ·exact bQr
 ·exact bQs
 ·exact bQt
 ·exact bQu
 ·exact bQv
 ·exact bQw
 ·exact bQx
 ·exact bQy
 ·exact bQz
 ·exact bQ0
 ·exact bQ1
 ·exact bQ2
 ·exact bQ3
 ·exact bQ4
 ·exact bQ5
 ·exact bQ6
 ·exact bQ7
 ·exact bQ8
 ·exact bQ9
 ·exact bRa
 ·exact bRb
 ·exact bRc
 ·exact bRd
 ·exact bRe
 ·exact bRf
 ·exact bRg
 ·exact bRh
 ·exact bRi
 ·exact bRj
 ·exact bRk
 ·exact bRl
 ·exact bRm
 ·exact bRn
 ·exact bRo
 ·exact bRp
 ·exact bRq
 ·exact bRr
 ·exact bRs
 ·exact bRt
 ·exact bRu
 ·exact bRv
 ·exact bRw
 ·exact bRx
 ·exact bRy
 ·exact bRz
 ·exact bR0
 ·exact bR1
 ·exact bR2
 ·exact bR3
 ·exact bR4
 ·exact bR5
 ·exact bR6
 ·exact bR7
 ·exact bR8
 ·exact bR9
 ·exact bSa
 ·exact bSb
 ·exact bSc
 ·exact bSd
 ·exact bSe
 ·exact bSf
 ·exact bSg
 ·exact bSh
 ·exact bSi
 ·exact bSj
 ·exact bSk
 ·exact bSl
 ·exact bSm
 ·exact bSn
 ·exact bSo
 ·exact bSp
 ·exact bSq
 ·exact bSr
 ·exact bSs
 ·exact bSt
 ·exact bSu
 ·exact bSv
 ·exact bSw
 ·exact bSx
 ·exact bSy
 ·exact bSz
 ·exact bS0
 ·exact bS1
 ·exact bS2
 ·exact bS3
 ·exact bS4
 ·exact bS5
 ·exact bS6
 ·exact bS7
 ·exact bS8
 ·exact bS9
 ·exact bTa
 ·exact bTb
 ·exact bTc
 ·exact bTd
 ·exact bTe
 ·exact bTf
 ·exact bTg
 ·exact bTh
 ·exact bTi
 ·exact bTj
 ·exact bTk
 ·exact bTl
 ·exact bTm
 ·exact bTn
 ·exact bTo
 ·exact bTp
 ·exact bTq
 ·exact bTr
 ·exact bTs
 ·exact bTt
 ·exact bTu
 ·exact bTv
 ·exact bTw
 ·exact bTx
 ·exact bTy
 ·exact bTz
 ·exact bT0
 ·exact bT1
 ·exact bT2
 ·exact bT3
 ·exact bT4
 ·exact bT5
 ·exact bT6
 ·exact bT7
 ·exact bT8
 ·exact bT9
 ·exact bUa
end Go.Proofs.YthpmfghgoabnhaaGreat
