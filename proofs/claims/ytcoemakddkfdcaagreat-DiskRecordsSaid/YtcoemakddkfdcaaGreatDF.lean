/- The examples of the chapter, reckoned: all. -/
import Derived.Test.YtcoemakddkfdcaaGreatDB
import Derived.Test.YtcoemakddkfdcaaGreatDC
import Derived.Test.YtcoemakddkfdcaaGreatDD
import Derived.Test.YtcoemakddkfdcaaGreatDE
set_option linter.all false
namespace Go.Proofs.YtcoemakddkfdcaaGreat
open Go.Abs Go.Proofs
set_option maxRecDepth 10000
theorem p0 : PC L e0.f e0.a e0.r := Knows.pcF (l := []) Knows.nil r0
theorem p1 : PC L e1.f e1.a e1.r := Knows.pc (l := []) Knows.nil r1
theorem p2 : PC L e2.f e2.a e2.r := Knows.pc (l := []) Knows.nil r2
theorem p3 : PC L e3.f e3.a e3.r := Knows.pc (l := []) Knows.nil r3
theorem p4 : PC L e4.f e4.a e4.r := Knows.pc (l := []) Knows.nil r4
theorem p5 : PC L e5.f e5.a e5.r := Knows.pc (l := []) Knows.nil r5
theorem p6 : PC L e6.f e6.a e6.r := Knows.pc (l := [e3,e4,e5]) (((Knows.nil.add p5).add p4).add p3) r6
theorem p7 : PC L e7.f e7.a e7.r := Knows.pc (l := []) Knows.nil r7
theorem p8 : PC L e8.f e8.a e8.r := Knows.pc (l := []) Knows.nil r8
theorem p9 : PC L e9.f e9.a e9.r := Knows.pc (l := []) Knows.nil r9
theorem p10 : PC L e10.f e10.a e10.r := Knows.pc (l := []) Knows.nil r10
theorem p11 : PC L e11.f e11.a e11.r := Knows.pc (l := []) Knows.nil r11
theorem p12 : PC L e12.f e12.a e12.r := Knows.pc (l := []) Knows.nil r12
theorem p13 : PC L e13.f e13.a e13.r := Knows.pc (l := []) Knows.nil r13
theorem p14 : PC L e14.f e14.a e14.r := Knows.pc (l := []) Knows.nil r14
theorem p15 : PC L e15.f e15.a e15.r := Knows.pc (l := []) Knows.nil r15
theorem p16 : PC L e16.f e16.a e16.r := Knows.pc (l := []) Knows.nil r16
theorem p17 : PC L e17.f e17.a e17.r := Knows.pc (l := []) Knows.nil r17
theorem p18 : PC L e18.f e18.a e18.r := Knows.pc (l := []) Knows.nil r18
theorem p19 : PC L e19.f e19.a e19.r := Knows.pc (l := []) Knows.nil r19
theorem p20 : PC L e20.f e20.a e20.r := Knows.pc (l := []) Knows.nil r20
theorem p21 : PC L e21.f e21.a e21.r := Knows.pc (l := []) Knows.nil r21
theorem p22 : PC L e22.f e22.a e22.r := Knows.pc (l := []) Knows.nil r22
theorem p23 : PC L e23.f e23.a e23.r := Knows.pc (l := []) Knows.nil r23
theorem p24 : PC L e24.f e24.a e24.r := Knows.pc (l := []) Knows.nil r24
theorem p25 : PC L e25.f e25.a e25.r := Knows.pc (l := []) Knows.nil r25
theorem p26 : PC L e26.f e26.a e26.r := Knows.pc (l := []) Knows.nil r26
theorem p27 : PC L e27.f e27.a e27.r := Knows.pc (l := []) Knows.nil r27
theorem p28 : PC L e28.f e28.a e28.r := Knows.pc (l := []) Knows.nil r28
theorem p29 : PC L e29.f e29.a e29.r := Knows.pc (l := []) Knows.nil r29
theorem p30 : PC L e30.f e30.a e30.r := Knows.pc (l := []) Knows.nil r30
theorem p31 : PC L e31.f e31.a e31.r := Knows.pc (l := []) Knows.nil r31
theorem p32 : PC L e32.f e32.a e32.r := Knows.pc (l := []) Knows.nil r32
theorem p33 : PC L e33.f e33.a e33.r := Knows.pc (l := []) Knows.nil r33
theorem p34 : PC L e34.f e34.a e34.r := Knows.pc (l := []) Knows.nil r34
theorem p35 : PC L e35.f e35.a e35.r := Knows.pc (l := []) Knows.nil r35
theorem p36 : PC L e36.f e36.a e36.r := Knows.pc (l := []) Knows.nil r36
theorem p37 : PC L e37.f e37.a e37.r := Knows.pc (l := []) Knows.nil r37
theorem p38 : PC L e38.f e38.a e38.r := Knows.pc (l := []) Knows.nil r38
theorem p39 : PC L e39.f e39.a e39.r := Knows.pc (l := []) Knows.nil r39
theorem p40 : PC L e40.f e40.a e40.r := Knows.pc (l := []) Knows.nil r40
theorem p41 : PC L e41.f e41.a e41.r := Knows.pc (l := [e40]) (Knows.nil.add p40) r41
theorem p42 : PC L e42.f e42.a e42.r := Knows.pc (l := []) Knows.nil r42
theorem p43 : PC L e43.f e43.a e43.r := Knows.pc (l := [e42]) (Knows.nil.add p42) r43
theorem p44 : PC L e44.f e44.a e44.r := Knows.pc (l := [e2,e6,e7,e8,e9,e10,e11,e12,e13,e14,e15,e16,e17,e18,e19,e20,e21,e22,e23,e24,e25,e26,e27,e28,e29,e30,e31,e32,e33,e34,e35,e36,e37,e38,e39,e41,e43]) (((((((((((((((((((((((((((((((((((((Knows.nil.add p43).add p41).add p39).add p38).add p37).add p36).add p35).add p34).add p33).add p32).add p31).add p30).add p29).add p28).add p27).add p26).add p25).add p24).add p23).add p22).add p21).add p20).add p19).add p18).add p17).add p16).add p15).add p14).add p13).add p12).add p11).add p10).add p9).add p8).add p7).add p6).add p2) r44
theorem p45 : PC L e45.f e45.a e45.r := Knows.pc (l := []) Knows.nil r45
theorem p46 : PC L e46.f e46.a e46.r := Knows.pc (l := []) Knows.nil r46
theorem p47 : PC L e47.f e47.a e47.r := Knows.pc (l := []) Knows.nil r47
theorem p48 : PC L e48.f e48.a e48.r := Knows.pc (l := []) Knows.nil r48
theorem p49 : PC L e49.f e49.a e49.r := Knows.pc (l := []) Knows.nil r49
theorem p50 : PC L e50.f e50.a e50.r := Knows.pc (l := []) Knows.nil r50
theorem p51 : PC L e51.f e51.a e51.r := Knows.pc (l := [e49,e50]) ((Knows.nil.add p50).add p49) r51
theorem p52 : PC L e52.f e52.a e52.r := Knows.pc (l := [e2,e45,e46,e47,e48,e51]) ((((((Knows.nil.add p51).add p48).add p47).add p46).add p45).add p2) r52
theorem p53 : PC L e53.f e53.a e53.r := Knows.pc (l := [e1,e44,e52]) (((Knows.nil.add p52).add p44).add p1) r53
theorem p54 : PC L e54.f e54.a e54.r := Knows.pcF (l := []) Knows.nil r54
theorem p55 : PC L e55.f e55.a e55.r := Knows.pcF (l := []) Knows.nil r55
theorem p56 : PC L e56.f e56.a e56.r := Knows.pcF (l := []) Knows.nil r56
theorem p57 : PC L e57.f e57.a e57.r := Knows.pcF (l := [e0]) (Knows.nil.add p0) r57
theorem p58 : PC L e58.f e58.a e58.r := Knows.pcF (l := []) Knows.nil r58
theorem p59 : PC L e59.f e59.a e59.r := Knows.pcF (l := [e58]) (Knows.nil.add p58) r59
theorem p60 : PC L e60.f e60.a e60.r := Knows.pcF (l := []) Knows.nil r60
theorem p61 : PC L e61.f e61.a e61.r := Knows.pcF (l := [e57,e59,e60]) (((Knows.nil.add p60).add p59).add p57) r61
theorem p62 : PC L e62.f e62.a e62.r := Knows.pcF (l := [e54,e55,e56,e61]) ((((Knows.nil.add p61).add p56).add p55).add p54) r62
theorem p63 : PC L e63.f e63.a e63.r := Knows.pcF (l := [e57,e59,e60]) (((Knows.nil.add p60).add p59).add p57) r63
theorem p64 : PC L e64.f e64.a e64.r := Knows.pcF (l := [e57,e59,e60]) (((Knows.nil.add p60).add p59).add p57) r64
theorem p65 : PC L e65.f e65.a e65.r := Knows.pcF (l := [e57,e59,e60]) (((Knows.nil.add p60).add p59).add p57) r65
theorem p66 : PC L e66.f e66.a e66.r := Knows.pcF (l := []) Knows.nil r66
theorem p67 : PC L e67.f e67.a e67.r := Knows.pcF (l := [e57,e66,e59,e60]) ((((Knows.nil.add p60).add p59).add p66).add p57) r67
theorem p68 : PC L e68.f e68.a e68.r := Knows.pcF (l := [e57,e59,e60]) (((Knows.nil.add p60).add p59).add p57) r68
theorem p69 : PC L e69.f e69.a e69.r := Knows.pcF (l := []) Knows.nil r69
theorem p70 : PC L e70.f e70.a e70.r := Knows.pcF (l := [e57,e59,e69,e60]) ((((Knows.nil.add p60).add p69).add p59).add p57) r70
theorem p71 : PC L e71.f e71.a e71.r := Knows.pcF (l := [e57,e59,e60]) (((Knows.nil.add p60).add p59).add p57) r71
theorem p72 : PC L e72.f e72.a e72.r := Knows.pcF (l := [e57,e59,e60]) (((Knows.nil.add p60).add p59).add p57) r72
theorem p73 : PC L e73.f e73.a e73.r := Knows.pcF (l := [e57,e59,e60]) (((Knows.nil.add p60).add p59).add p57) r73
theorem p74 : PC L e74.f e74.a e74.r := Knows.pcF (l := [e57,e59,e60]) (((Knows.nil.add p60).add p59).add p57) r74
theorem p75 : PC L e75.f e75.a e75.r := Knows.pcF (l := [e57,e59,e60]) (((Knows.nil.add p60).add p59).add p57) r75
theorem p76 : PC L e76.f e76.a e76.r := Knows.pcF (l := [e57,e59,e60]) (((Knows.nil.add p60).add p59).add p57) r76
theorem p77 : PC L e77.f e77.a e77.r := Knows.pcF (l := [e57,e59,e60]) (((Knows.nil.add p60).add p59).add p57) r77
theorem p78 : PC L e78.f e78.a e78.r := Knows.pcF (l := [e57,e59,e60]) (((Knows.nil.add p60).add p59).add p57) r78
theorem p79 : PC L e79.f e79.a e79.r := Knows.pcF (l := [e57,e59,e60]) (((Knows.nil.add p60).add p59).add p57) r79
theorem p80 : PC L e80.f e80.a e80.r := Knows.pcF (l := [e57,e59,e60]) (((Knows.nil.add p60).add p59).add p57) r80
theorem p81 : PC L e81.f e81.a e81.r := Knows.pcF (l := [e57,e66,e59,e69,e60]) (((((Knows.nil.add p60).add p69).add p59).add p66).add p57) r81
theorem p82 : PC L e82.f e82.a e82.r := Knows.pcF (l := []) Knows.nil r82
theorem p83 : PC L e83.f e83.a e83.r := Knows.pcF (l := []) Knows.nil r83
theorem p84 : PC L e84.f e84.a e84.r := Knows.pcF (l := []) Knows.nil r84
theorem p85 : PC L e85.f e85.a e85.r := Knows.pcF (l := [e54,e55,e56,e62,e63,e64,e65,e67,e68,e70,e71,e72,e73,e74,e75,e76,e77,e78,e79,e80,e81,e82,e83,e84]) ((((((((((((((((((((((((Knows.nil.add p84).add p83).add p82).add p81).add p80).add p79).add p78).add p77).add p76).add p75).add p74).add p73).add p72).add p71).add p70).add p68).add p67).add p65).add p64).add p63).add p62).add p56).add p55).add p54) r85
theorem p86 : PC L e86.f e86.a e86.r := Knows.pc (l := []) Knows.nil r86
theorem p87 : PC L e87.f e87.a e87.r := Knows.pc (l := []) Knows.nil r87
theorem p88 : PC L e88.f e88.a e88.r := Knows.pc (l := [e41]) (Knows.nil.add p41) r88
theorem p89 : PC L e89.f e89.a e89.r := Knows.pc (l := [e88]) (Knows.nil.add p88) r89
theorem p90 : PC L e90.f e90.a e90.r := Knows.pc (l := []) Knows.nil r90
theorem p91 : PC L e91.f e91.a e91.r := Knows.pc (l := [e43]) (Knows.nil.add p43) r91
theorem p92 : PC L e92.f e92.a e92.r := Knows.pc (l := [e91]) (Knows.nil.add p91) r92
theorem p93 : PC L e93.f e93.a e93.r := Knows.pc (l := []) Knows.nil r93
theorem p94 : PC L e94.f e94.a e94.r := Knows.pc (l := []) Knows.nil r94
theorem p95 : PC L e95.f e95.a e95.r := Knows.pc (l := []) Knows.nil r95
theorem p96 : PC L e96.f e96.a e96.r := Knows.pc (l := [e94,e95]) ((Knows.nil.add p95).add p94) r96
theorem p97 : PC L e97.f e97.a e97.r := Knows.pc (l := [e3,e87,e89,e90,e92,e93,e5,e96]) ((((((((Knows.nil.add p96).add p5).add p93).add p92).add p90).add p89).add p87).add p3) r97
theorem p98 : PC L e98.f e98.a e98.r := Knows.pc (l := []) Knows.nil r98
theorem p99 : PC L e99.f e99.a e99.r := Knows.pc (l := []) Knows.nil r99
theorem p100 : PC L e100.f e100.a e100.r := Knows.pc (l := []) Knows.nil r100
theorem p101 : PC L e101.f e101.a e101.r := Knows.pc (l := []) Knows.nil r101
theorem p102 : PC L e102.f e102.a e102.r := Knows.pc (l := []) Knows.nil r102
theorem p103 : PC L e103.f e103.a e103.r := Knows.pc (l := []) Knows.nil r103
theorem p104 : PC L e104.f e104.a e104.r := Knows.pc (l := []) Knows.nil r104
theorem p105 : PC L e105.f e105.a e105.r := Knows.pc (l := []) Knows.nil r105
theorem p106 : PC L e106.f e106.a e106.r := Knows.pc (l := []) Knows.nil r106
theorem p107 : PC L e107.f e107.a e107.r := Knows.pc (l := []) Knows.nil r107
theorem p108 : PC L e108.f e108.a e108.r := Knows.pc (l := []) Knows.nil r108
theorem p109 : PC L e109.f e109.a e109.r := Knows.pc (l := []) Knows.nil r109
theorem p110 : PC L e110.f e110.a e110.r := Knows.pc (l := []) Knows.nil r110
theorem p111 : PC L e111.f e111.a e111.r := Knows.pc (l := []) Knows.nil r111
theorem p112 : PC L e112.f e112.a e112.r := Knows.pc (l := []) Knows.nil r112
theorem p113 : PC L e113.f e113.a e113.r := Knows.pc (l := []) Knows.nil r113
theorem p114 : PC L e114.f e114.a e114.r := Knows.pc (l := []) Knows.nil r114
theorem p115 : PC L e115.f e115.a e115.r := Knows.pc (l := []) Knows.nil r115
theorem p116 : PC L e116.f e116.a e116.r := Knows.pc (l := []) Knows.nil r116
theorem p117 : PC L e117.f e117.a e117.r := Knows.pc (l := []) Knows.nil r117
theorem p118 : PC L e118.f e118.a e118.r := Knows.pc (l := []) Knows.nil r118
theorem p119 : PC L e119.f e119.a e119.r := Knows.pc (l := []) Knows.nil r119
theorem p120 : PC L e120.f e120.a e120.r := Knows.pc (l := []) Knows.nil r120
theorem p121 : PC L e121.f e121.a e121.r := Knows.pc (l := []) Knows.nil r121
theorem p122 : PC L e122.f e122.a e122.r := Knows.pc (l := []) Knows.nil r122
theorem p123 : PC L e123.f e123.a e123.r := Knows.pc (l := []) Knows.nil r123
theorem p124 : PC L e124.f e124.a e124.r := Knows.pc (l := []) Knows.nil r124
theorem p125 : PC L e125.f e125.a e125.r := Knows.pc (l := []) Knows.nil r125
theorem p126 : PC L e126.f e126.a e126.r := Knows.pc (l := []) Knows.nil r126
theorem p127 : PC L e127.f e127.a e127.r := Knows.pc (l := []) Knows.nil r127
theorem p128 : PC L e128.f e128.a e128.r := Knows.pc (l := []) Knows.nil r128
theorem p129 : PC L e129.f e129.a e129.r := Knows.pc (l := []) Knows.nil r129
theorem p130 : PC L e130.f e130.a e130.r := Knows.pc (l := []) Knows.nil r130
theorem p131 : PC L e131.f e131.a e131.r := Knows.pc (l := []) Knows.nil r131
theorem p132 : PC L e132.f e132.a e132.r := Knows.pc (l := [e131]) (Knows.nil.add p131) r132
theorem p133 : PC L e133.f e133.a e133.r := Knows.pc (l := [e42]) (Knows.nil.add p42) r133
theorem p134 : PC L e134.f e134.a e134.r := Knows.pc (l := [e86,e97,e98,e99,e100,e101,e102,e103,e104,e105,e106,e107,e108,e109,e110,e111,e112,e113,e114,e115,e116,e117,e118,e119,e120,e121,e122,e123,e124,e125,e126,e127,e128,e129,e130,e132,e133]) (((((((((((((((((((((((((((((((((((((Knows.nil.add p133).add p132).add p130).add p129).add p128).add p127).add p126).add p125).add p124).add p123).add p122).add p121).add p120).add p119).add p118).add p117).add p116).add p115).add p114).add p113).add p112).add p111).add p110).add p109).add p108).add p107).add p106).add p105).add p104).add p103).add p102).add p101).add p100).add p99).add p98).add p97).add p86) r134
theorem p135 : PC L e135.f e135.a e135.r := Knows.pc (l := []) Knows.nil r135
theorem p136 : PC L e136.f e136.a e136.r := Knows.pc (l := []) Knows.nil r136
theorem p137 : PC L e137.f e137.a e137.r := Knows.pc (l := [e86,e135,e136]) (((Knows.nil.add p136).add p135).add p86) r137
theorem p138 : PC L e138.f e138.a e138.r := Knows.pc (l := [e135,e136]) ((Knows.nil.add p136).add p135) r138
theorem p139 : PC L e139.f e139.a e139.r := Knows.pc (l := []) Knows.nil r139
theorem p140 : PC L e140.f e140.a e140.r := Knows.pc (l := []) Knows.nil r140
theorem p141 : PC L e141.f e141.a e141.r := Knows.pc (l := [e139,e140]) ((Knows.nil.add p140).add p139) r141
theorem p142 : PC L e142.f e142.a e142.r := Knows.pc (l := [e53,e134,e137,e138,e141]) (((((Knows.nil.add p141).add p138).add p137).add p134).add p53) r142
theorem p143 : PC L e143.f e143.a e143.r := Knows.pcF (l := []) Knows.nil r143
theorem p144 : PC L e144.f e144.a e144.r := Knows.pcF (l := []) Knows.nil r144
theorem p145 : PC L e145.f e145.a e145.r := Knows.pcF (l := [e83]) (Knows.nil.add p83) r145
theorem p146 : PC L e146.f e146.a e146.r := Knows.pcF (l := []) Knows.nil r146
theorem p147 : PC L e147.f e147.a e147.r := Knows.pcF (l := [e57,e59,e145,e146,e60]) (((((Knows.nil.add p60).add p146).add p145).add p59).add p57) r147
theorem p148 : PC L e148.f e148.a e148.r := Knows.pcF (l := [e57,e59,e145,e146,e60]) (((((Knows.nil.add p60).add p146).add p145).add p59).add p57) r148
theorem p149 : PC L e149.f e149.a e149.r := Knows.pcF (l := [e57,e59,e145,e146,e60]) (((((Knows.nil.add p60).add p146).add p145).add p59).add p57) r149
theorem p150 : PC L e150.f e150.a e150.r := Knows.pcF (l := [e57,e59,e145,e146,e60]) (((((Knows.nil.add p60).add p146).add p145).add p59).add p57) r150
theorem p151 : PC L e151.f e151.a e151.r := Knows.pcF (l := []) Knows.nil r151
theorem p152 : PC L e152.f e152.a e152.r := Knows.pcF (l := []) Knows.nil r152
theorem p153 : PC L e153.f e153.a e153.r := Knows.pcF (l := [e57,e151,e59,e145,e152,e146,e60]) (((((((Knows.nil.add p60).add p146).add p152).add p145).add p59).add p151).add p57) r153
theorem p154 : PC L e154.f e154.a e154.r := Knows.pcF (l := [e57,e59,e145,e146,e60]) (((((Knows.nil.add p60).add p146).add p145).add p59).add p57) r154
theorem p155 : PC L e155.f e155.a e155.r := Knows.pcF (l := []) Knows.nil r155
theorem p156 : PC L e156.f e156.a e156.r := Knows.pcF (l := [e57,e59,e155,e145,e146,e60]) ((((((Knows.nil.add p60).add p146).add p145).add p155).add p59).add p57) r156
theorem p157 : PC L e157.f e157.a e157.r := Knows.pcF (l := [e57,e59,e145,e146,e60]) (((((Knows.nil.add p60).add p146).add p145).add p59).add p57) r157
theorem p158 : PC L e158.f e158.a e158.r := Knows.pcF (l := [e57,e59,e145,e146,e60]) (((((Knows.nil.add p60).add p146).add p145).add p59).add p57) r158
theorem p159 : PC L e159.f e159.a e159.r := Knows.pcF (l := [e57,e59,e145,e146,e60]) (((((Knows.nil.add p60).add p146).add p145).add p59).add p57) r159
theorem p160 : PC L e160.f e160.a e160.r := Knows.pcF (l := [e57,e59,e145,e146,e60]) (((((Knows.nil.add p60).add p146).add p145).add p59).add p57) r160
theorem p161 : PC L e161.f e161.a e161.r := Knows.pcF (l := [e57,e59,e145,e146,e60]) (((((Knows.nil.add p60).add p146).add p145).add p59).add p57) r161
theorem p162 : PC L e162.f e162.a e162.r := Knows.pcF (l := [e57,e59,e145,e146,e60]) (((((Knows.nil.add p60).add p146).add p145).add p59).add p57) r162
theorem p163 : PC L e163.f e163.a e163.r := Knows.pcF (l := [e57,e59,e145,e146,e60]) (((((Knows.nil.add p60).add p146).add p145).add p59).add p57) r163
theorem p164 : PC L e164.f e164.a e164.r := Knows.pcF (l := [e57,e59,e145,e146,e60]) (((((Knows.nil.add p60).add p146).add p145).add p59).add p57) r164
theorem p165 : PC L e165.f e165.a e165.r := Knows.pcF (l := [e57,e59,e145,e146,e60]) (((((Knows.nil.add p60).add p146).add p145).add p59).add p57) r165
theorem p166 : PC L e166.f e166.a e166.r := Knows.pcF (l := [e57,e59,e145,e146,e60]) (((((Knows.nil.add p60).add p146).add p145).add p59).add p57) r166
theorem p167 : PC L e167.f e167.a e167.r := Knows.pcF (l := [e54,e55,e143,e144,e56,e147,e148,e149,e150,e153,e154,e156,e157,e158,e159,e160,e161,e162,e163,e164,e165,e166,e57,e151,e59,e155,e145,e152,e146,e60]) ((((((((((((((((((((((((((((((Knows.nil.add p60).add p146).add p152).add p145).add p155).add p59).add p151).add p57).add p166).add p165).add p164).add p163).add p162).add p161).add p160).add p159).add p158).add p157).add p156).add p154).add p153).add p150).add p149).add p148).add p147).add p56).add p144).add p143).add p55).add p54) r167
theorem p168 : PC L e168.f e168.a e168.r := Knows.pc (l := []) Knows.nil r168
theorem p169 : PC L e169.f e169.a e169.r := Knows.pc (l := []) Knows.nil r169
theorem p170 : PC L e170.f e170.a e170.r := Knows.pc (l := [e139,e169]) ((Knows.nil.add p169).add p139) r170
theorem p171 : PC L e171.f e171.a e171.r := Knows.pc (l := [e86,e135,e136,e168,e48,e170]) ((((((Knows.nil.add p170).add p48).add p168).add p136).add p135).add p86) r171
theorem p172 : PC L e172.f e172.a e172.r := Knows.pc (l := [e53,e134,e171]) (((Knows.nil.add p171).add p134).add p53) r172
theorem p173 : PC L e173.f e173.a e173.r := Knows.pcF (l := []) Knows.nil r173
theorem p174 : PC L e174.f e174.a e174.r := Knows.pcF (l := [e84]) (Knows.nil.add p84) r174
theorem p175 : PC L e175.f e175.a e175.r := Knows.pcF (l := [e57,e59,e145,e174,e60]) (((((Knows.nil.add p60).add p174).add p145).add p59).add p57) r175
theorem p176 : PC L e176.f e176.a e176.r := Knows.pcF (l := [e54,e55,e143,e173,e56,e175]) ((((((Knows.nil.add p175).add p56).add p173).add p143).add p55).add p54) r176
theorem p177 : PC L e177.f e177.a e177.r := Knows.pcF (l := [e57,e59,e145,e174,e60]) (((((Knows.nil.add p60).add p174).add p145).add p59).add p57) r177
theorem p178 : PC L e178.f e178.a e178.r := Knows.pcF (l := [e57,e59,e145,e174,e60]) (((((Knows.nil.add p60).add p174).add p145).add p59).add p57) r178
theorem p179 : PC L e179.f e179.a e179.r := Knows.pcF (l := [e57,e59,e145,e174,e60]) (((((Knows.nil.add p60).add p174).add p145).add p59).add p57) r179
theorem p180 : PC L e180.f e180.a e180.r := Knows.pcF (l := []) Knows.nil r180
theorem p181 : PC L e181.f e181.a e181.r := Knows.pcF (l := []) Knows.nil r181
theorem p182 : PC L e182.f e182.a e182.r := Knows.pcF (l := [e57,e180,e59,e145,e181,e174,e60]) (((((((Knows.nil.add p60).add p174).add p181).add p145).add p59).add p180).add p57) r182
theorem p183 : PC L e183.f e183.a e183.r := Knows.pcF (l := [e57]) (Knows.nil.add p57) r183
theorem p184 : PC L e184.f e184.a e184.r := Knows.pcF (l := [e57,e59,e145,e174,e60]) (((((Knows.nil.add p60).add p174).add p145).add p59).add p57) r184
theorem p185 : PC L e185.f e185.a e185.r := Knows.pcF (l := []) Knows.nil r185
theorem p186 : PC L e186.f e186.a e186.r := Knows.pcF (l := [e57,e59,e185,e145,e174,e60]) ((((((Knows.nil.add p60).add p174).add p145).add p185).add p59).add p57) r186
theorem p187 : PC L e187.f e187.a e187.r := Knows.pcF (l := [e57,e59,e145,e174,e60]) (((((Knows.nil.add p60).add p174).add p145).add p59).add p57) r187
theorem p188 : PC L e188.f e188.a e188.r := Knows.pcF (l := []) Knows.nil r188
theorem p189 : PC L e189.f e189.a e189.r := Knows.pcF (l := [e57,e59,e145,e174,e188,e60]) ((((((Knows.nil.add p60).add p188).add p174).add p145).add p59).add p57) r189
theorem p190 : PC L e190.f e190.a e190.r := Knows.pcF (l := [e57,e59,e145,e174,e60]) (((((Knows.nil.add p60).add p174).add p145).add p59).add p57) r190
theorem p191 : PC L e191.f e191.a e191.r := Knows.pcF (l := [e57,e59,e145,e174,e60]) (((((Knows.nil.add p60).add p174).add p145).add p59).add p57) r191
theorem p192 : PC L e192.f e192.a e192.r := Knows.pcF (l := [e57,e59,e145,e174,e60]) (((((Knows.nil.add p60).add p174).add p145).add p59).add p57) r192
theorem p193 : PC L e193.f e193.a e193.r := Knows.pcF (l := [e57,e59,e145,e174,e60]) (((((Knows.nil.add p60).add p174).add p145).add p59).add p57) r193
theorem p194 : PC L e194.f e194.a e194.r := Knows.pcF (l := [e57,e59,e145,e174,e60]) (((((Knows.nil.add p60).add p174).add p145).add p59).add p57) r194
theorem p195 : PC L e195.f e195.a e195.r := Knows.pcF (l := [e57,e59,e145,e174,e60]) (((((Knows.nil.add p60).add p174).add p145).add p59).add p57) r195
theorem p196 : PC L e196.f e196.a e196.r := Knows.pcF (l := [e57,e59,e145,e174,e60]) (((((Knows.nil.add p60).add p174).add p145).add p59).add p57) r196
theorem p197 : PC L e197.f e197.a e197.r := Knows.pcF (l := [e57,e59,e145,e174,e60]) (((((Knows.nil.add p60).add p174).add p145).add p59).add p57) r197
theorem p198 : PC L e198.f e198.a e198.r := Knows.pcF (l := [e177,e178,e179,e182,e183,e184,e186,e187,e189,e190,e191,e192,e193,e194,e195,e196,e197]) (((((((((((((((((Knows.nil.add p197).add p196).add p195).add p194).add p193).add p192).add p191).add p190).add p189).add p187).add p186).add p184).add p183).add p182).add p179).add p178).add p177) r198
theorem p199 : PC L e199.f e199.a e199.r := Knows.pcF (l := [e198]) (Knows.nil.add p198) r199
theorem p200 : PC L e200.f e200.a e200.r := Knows.pcF (l := [e57,e180,e59,e185,e145,e181,e174,e188,e60]) (((((((((Knows.nil.add p60).add p188).add p174).add p181).add p145).add p185).add p59).add p180).add p57) r200
theorem p201 : PC L e201.f e201.a e201.r := Knows.pcF (l := [e198,e200,e182,e186,e189]) (((((Knows.nil.add p189).add p186).add p182).add p200).add p198) r201
theorem p202 : PC L e202.f e202.a e202.r := Knows.pcF (l := []) Knows.nil r202
theorem p203 : PC L e203.f e203.a e203.r := Knows.pcF (l := [e177,e178,e179,e182,e184,e186,e187,e189,e190,e191,e192,e193,e194,e195,e196,e197]) ((((((((((((((((Knows.nil.add p197).add p196).add p195).add p194).add p193).add p192).add p191).add p190).add p189).add p187).add p186).add p184).add p182).add p179).add p178).add p177) r203
theorem p204 : PC L e204.f e204.a e204.r := Knows.pcF (l := [e203]) (Knows.nil.add p203) r204
theorem p205 : PC L e205.f e205.a e205.r := Knows.pcF (l := [e177,e178,e179,e182,e184,e186,e187,e189,e190,e191,e192,e193,e194,e195,e196,e197]) ((((((((((((((((Knows.nil.add p197).add p196).add p195).add p194).add p193).add p192).add p191).add p190).add p189).add p187).add p186).add p184).add p182).add p179).add p178).add p177) r205
theorem p206 : PC L e206.f e206.a e206.r := Knows.pcF (l := [e205]) (Knows.nil.add p205) r206
theorem p207 : PC L e207.f e207.a e207.r := Knows.pcF (l := [e177,e178,e179,e182,e184,e186,e187,e189,e190,e191,e192,e193,e194,e195,e196,e197]) ((((((((((((((((Knows.nil.add p197).add p196).add p195).add p194).add p193).add p192).add p191).add p190).add p189).add p187).add p186).add p184).add p182).add p179).add p178).add p177) r207
theorem p208 : PC L e208.f e208.a e208.r := Knows.pcF (l := [e207]) (Knows.nil.add p207) r208
theorem p209 : PC L e209.f e209.a e209.r := Knows.pcF (l := [e177,e178,e179,e182,e184,e186,e187,e189,e190,e191,e192,e193,e194,e195,e196,e197]) ((((((((((((((((Knows.nil.add p197).add p196).add p195).add p194).add p193).add p192).add p191).add p190).add p189).add p187).add p186).add p184).add p182).add p179).add p178).add p177) r209
theorem p210 : PC L e210.f e210.a e210.r := Knows.pcF (l := [e209]) (Knows.nil.add p209) r210
theorem p211 : PC L e211.f e211.a e211.r := Knows.pcF (l := [e177,e178,e179,e182,e184,e186,e187,e189,e190,e191,e192,e193,e194,e195,e196,e197]) ((((((((((((((((Knows.nil.add p197).add p196).add p195).add p194).add p193).add p192).add p191).add p190).add p189).add p187).add p186).add p184).add p182).add p179).add p178).add p177) r211
theorem p212 : PC L e212.f e212.a e212.r := Knows.pcF (l := [e211]) (Knows.nil.add p211) r212
theorem p213 : PC L e213.f e213.a e213.r := Knows.pcF (l := []) Knows.nil r213
theorem p214 : PC L e214.f e214.a e214.r := Knows.pcF (l := []) Knows.nil r214
theorem p215 : PC L e215.f e215.a e215.r := Knows.pcF (l := []) Knows.nil r215
theorem p216 : PC L e216.f e216.a e216.r := Knows.pcF (l := [e176,e199,e201,e202,e204,e206,e208,e210,e212,e213,e214,e215]) ((((((((((((Knows.nil.add p215).add p214).add p213).add p212).add p210).add p208).add p206).add p204).add p202).add p201).add p199).add p176) r216
theorem p217 : PC L e217.f e217.a e217.r := Knows.pcF (l := [e148,e149,e150,e153,e154,e156,e157,e158,e159,e160,e161,e162,e163,e164,e165,e166]) ((((((((((((((((Knows.nil.add p166).add p165).add p164).add p163).add p162).add p161).add p160).add p159).add p158).add p157).add p156).add p154).add p153).add p150).add p149).add p148) r217
theorem p218 : PC L e218.f e218.a e218.r := Knows.pcF (l := [e217]) (Knows.nil.add p217) r218
theorem p219 : PC L e219.f e219.a e219.r := Knows.pcF (l := [e148,e149,e150,e153,e154,e156,e157,e158,e159,e160,e161,e162,e163,e164,e165,e166]) ((((((((((((((((Knows.nil.add p166).add p165).add p164).add p163).add p162).add p161).add p160).add p159).add p158).add p157).add p156).add p154).add p153).add p150).add p149).add p148) r219
theorem p220 : PC L e220.f e220.a e220.r := Knows.pcF (l := [e219]) (Knows.nil.add p219) r220
theorem p221 : PC L e221.f e221.a e221.r := Knows.pcF (l := [e148,e149,e150,e153,e154,e156,e157,e158,e159,e160,e161,e162,e163,e164,e165,e166]) ((((((((((((((((Knows.nil.add p166).add p165).add p164).add p163).add p162).add p161).add p160).add p159).add p158).add p157).add p156).add p154).add p153).add p150).add p149).add p148) r221
theorem p222 : PC L e222.f e222.a e222.r := Knows.pcF (l := [e221]) (Knows.nil.add p221) r222
theorem p223 : PC L e223.f e223.a e223.r := Knows.pcF (l := [e148,e149,e150,e153,e154,e156,e157,e158,e159,e160,e161,e162,e163,e164,e165,e166]) ((((((((((((((((Knows.nil.add p166).add p165).add p164).add p163).add p162).add p161).add p160).add p159).add p158).add p157).add p156).add p154).add p153).add p150).add p149).add p148) r223
theorem p224 : PC L e224.f e224.a e224.r := Knows.pcF (l := [e223]) (Knows.nil.add p223) r224
theorem p225 : PC L e225.f e225.a e225.r := Knows.pcF (l := [e148,e149,e150,e153,e154,e156,e157,e158,e159,e160,e161,e162,e163,e164,e165,e166]) ((((((((((((((((Knows.nil.add p166).add p165).add p164).add p163).add p162).add p161).add p160).add p159).add p158).add p157).add p156).add p154).add p153).add p150).add p149).add p148) r225
theorem p226 : PC L e226.f e226.a e226.r := Knows.pcF (l := [e225]) (Knows.nil.add p225) r226
theorem p227 : PC L e227.f e227.a e227.r := Knows.pcF (l := [e148,e149,e150,e153,e154,e156,e157,e158,e159,e160,e161,e162,e163,e164,e165,e166]) ((((((((((((((((Knows.nil.add p166).add p165).add p164).add p163).add p162).add p161).add p160).add p159).add p158).add p157).add p156).add p154).add p153).add p150).add p149).add p148) r227
theorem p228 : PC L e228.f e228.a e228.r := Knows.pcF (l := [e227]) (Knows.nil.add p227) r228
theorem p229 : PC L e229.f e229.a e229.r := Knows.pcF (l := [e54,e55,e143,e144,e56,e147,e218,e220,e222,e224,e226,e228]) ((((((((((((Knows.nil.add p228).add p226).add p224).add p222).add p220).add p218).add p147).add p56).add p144).add p143).add p55).add p54) r229
theorem p230 : PC L e230.f e230.a e230.r := Knows.pcF (l := [e54,e55,e143,e144,e56,e147]) ((((((Knows.nil.add p147).add p56).add p144).add p143).add p55).add p54) r230
theorem p231 : PC L e231.f e231.a e231.r := Knows.pcF (l := [e57,e151,e59,e155,e145,e152,e146,e60]) ((((((((Knows.nil.add p60).add p146).add p152).add p145).add p155).add p59).add p151).add p57) r231
theorem p232 : PC L e232.f e232.a e232.r := Knows.pcF (l := []) Knows.nil r232
theorem p233 : PC L e233.f e233.a e233.r := Knows.pcF (l := []) Knows.nil r233
theorem p234 : PC L e234.f e234.a e234.r := Knows.pcF (l := []) Knows.nil r234
theorem p235 : PC L e235.f e235.a e235.r := Knows.pcF (l := [e54,e55,e143,e144,e56,e230,e148,e149,e150,e153,e154,e156,e157,e158,e159,e160,e161,e162,e163,e164,e165,e166,e231,e232,e233,e234]) ((((((((((((((((((((((((((Knows.nil.add p234).add p233).add p232).add p231).add p166).add p165).add p164).add p163).add p162).add p161).add p160).add p159).add p158).add p157).add p156).add p154).add p153).add p150).add p149).add p148).add p230).add p56).add p144).add p143).add p55).add p54) r235
theorem p236 : PC L e236.f e236.a e236.r := Knows.pc (l := [e131]) (Knows.nil.add p131) r236
theorem p237 : PC L e237.f e237.a e237.r := Knows.pc (l := [e42]) (Knows.nil.add p42) r237
theorem p238 : PC L e238.f e238.a e238.r := Knows.pc (l := [e42]) (Knows.nil.add p42) r238
theorem p239 : PC L e239.f e239.a e239.r := Knows.pc (l := [e131]) (Knows.nil.add p131) r239
theorem p240 : PC L e240.f e240.a e240.r := Knows.pcF (l := []) Knows.nil r240
theorem p241 : PC L e241.f e241.a e241.r := Knows.pcF (l := [e54,e55,e56,e240]) ((((Knows.nil.add p240).add p56).add p55).add p54) r241
theorem p242 : PC L e242.f e242.a e242.r := Knows.pc (l := [e40]) (Knows.nil.add p40) r242
theorem p243 : PC L e243.f e243.a e243.r := Knows.pc (l := [e42]) (Knows.nil.add p42) r243
theorem p244 : PC L e244.f e244.a e244.r := Knows.pc (l := [e0,e53,e85,e142,e167,e172,e216,e229,e235,e132,e133,e236,e237,e238,e239,e241,e242,e243]) ((((((((((((((((((Knows.nil.add p243).add p242).add p241).add p239).add p238).add p237).add p236).add p133).add p132).add p235).add p229).add p216).add p172).add p167).add p142).add p85).add p53).add p0) r244
theorem known_pc : PC L F.W16_works [] (.bool true) := p244
end Go.Proofs.YtcoemakddkfdcaaGreat
