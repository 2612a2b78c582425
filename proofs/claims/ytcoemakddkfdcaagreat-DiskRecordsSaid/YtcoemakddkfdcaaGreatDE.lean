/- The examples of the chapter, reckoned: runs, part 4. -/
import Derived.Test.YtcoemakddkfdcaaGreatDA
set_option linter.all false
namespace Go.Proofs.YtcoemakddkfdcaaGreat
open Go.Abs Go.Proofs
theorem r147 : fcall L (memo [e57,e59,e145,e146,e60]) 1000 e147.f e147.a = some e147.r := by kernel_rfl
theorem r167 : fcall L (memo [e54,e55,e143,e144,e56,e147,e148,e149,e150,e153,e154,e156,e157,e158,e159,e160,e161,e162,e163,e164,e165,e166,e57,e151,e59,e155,e145,e152,e146,e60]) 1000 e167.f e167.a = some e167.r := by kernel_rfl
theorem r23 : callWith L 8 (execM L (memo []) 1000) e23.f e23.a = some e23.r := by kernel_rfl
theorem r27 : callWith L 8 (execM L (memo []) 1000) e27.f e27.a = some e27.r := by kernel_rfl
theorem r31 : callWith L 8 (execM L (memo []) 1000) e31.f e31.a = some e31.r := by kernel_rfl
theorem r35 : callWith L 8 (execM L (memo []) 1000) e35.f e35.a = some e35.r := by kernel_rfl
theorem r114 : callWith L 8 (execM L (memo []) 1000) e114.f e114.a = some e114.r := by kernel_rfl
theorem r120 : callWith L 8 (execM L (memo []) 1000) e120.f e120.a = some e120.r := by kernel_rfl
theorem r124 : callWith L 8 (execM L (memo []) 1000) e124.f e124.a = some e124.r := by kernel_rfl
theorem r128 : callWith L 8 (execM L (memo []) 1000) e128.f e128.a = some e128.r := by kernel_rfl
theorem r7 : callWith L 8 (execM L (memo []) 1000) e7.f e7.a = some e7.r := by kernel_rfl
theorem r11 : callWith L 8 (execM L (memo []) 1000) e11.f e11.a = some e11.r := by kernel_rfl
theorem r15 : callWith L 8 (execM L (memo []) 1000) e15.f e15.a = some e15.r := by kernel_rfl
theorem r19 : callWith L 8 (execM L (memo []) 1000) e19.f e19.a = some e19.r := by kernel_rfl
theorem r98 : callWith L 8 (execM L (memo []) 1000) e98.f e98.a = some e98.r := by kernel_rfl
theorem r102 : callWith L 8 (execM L (memo []) 1000) e102.f e102.a = some e102.r := by kernel_rfl
theorem r106 : callWith L 8 (execM L (memo []) 1000) e106.f e106.a = some e106.r := by kernel_rfl
theorem r110 : callWith L 8 (execM L (memo []) 1000) e110.f e110.a = some e110.r := by kernel_rfl
theorem r182 : fcall L (memo [e57,e180,e59,e145,e181,e174,e60]) 1000 e182.f e182.a = some e182.r := by kernel_rfl
theorem r178 : fcall L (memo [e57,e59,e145,e174,e60]) 1000 e178.f e178.a = some e178.r := by kernel_rfl
theorem r190 : fcall L (memo [e57,e59,e145,e174,e60]) 1000 e190.f e190.a = some e190.r := by kernel_rfl
theorem r194 : fcall L (memo [e57,e59,e145,e174,e60]) 1000 e194.f e194.a = some e194.r := by kernel_rfl
theorem r153 : fcall L (memo [e57,e151,e59,e145,e152,e146,e60]) 1000 e153.f e153.a = some e153.r := by kernel_rfl
theorem r148 : fcall L (memo [e57,e59,e145,e146,e60]) 1000 e148.f e148.a = some e148.r := by kernel_rfl
theorem r157 : fcall L (memo [e57,e59,e145,e146,e60]) 1000 e157.f e157.a = some e157.r := by kernel_rfl
theorem r161 : fcall L (memo [e57,e59,e145,e146,e60]) 1000 e161.f e161.a = some e161.r := by kernel_rfl
theorem r165 : fcall L (memo [e57,e59,e145,e146,e60]) 1000 e165.f e165.a = some e165.r := by kernel_rfl
theorem r70 : fcall L (memo [e57,e59,e69,e60]) 1000 e70.f e70.a = some e70.r := by kernel_rfl
theorem r68 : fcall L (memo [e57,e59,e60]) 1000 e68.f e68.a = some e68.r := by kernel_rfl
theorem r74 : fcall L (memo [e57,e59,e60]) 1000 e74.f e74.a = some e74.r := by kernel_rfl
theorem r78 : fcall L (memo [e57,e59,e60]) 1000 e78.f e78.a = some e78.r := by kernel_rfl
theorem r130 : callWith L 8 (execM L (memo []) 1000) e130.f e130.a = some e130.r := by kernel_rfl
theorem r232 : fcall L (memo []) 1000 e232.f e232.a = some e232.r := by kernel_rfl
theorem r62 : fcall L (memo [e54,e55,e56,e61]) 1000 e62.f e62.a = some e62.r := by kernel_rfl
theorem r86 : callWith L 8 (execM L (memo []) 1000) e86.f e86.a = some e86.r := by kernel_rfl
theorem r209 : fcall L (memo [e177,e178,e179,e182,e184,e186,e187,e189,e190,e191,e192,e193,e194,e195,e196,e197]) 1000 e209.f e209.a = some e209.r := by kernel_rfl
theorem r223 : fcall L (memo [e148,e149,e150,e153,e154,e156,e157,e158,e159,e160,e161,e162,e163,e164,e165,e166]) 1000 e223.f e223.a = some e223.r := by kernel_rfl
theorem r217 : fcall L (memo [e148,e149,e150,e153,e154,e156,e157,e158,e159,e160,e161,e162,e163,e164,e165,e166]) 1000 e217.f e217.a = some e217.r := by kernel_rfl
theorem r201 : fcall L (memo [e198,e200,e182,e186,e189]) 1000 e201.f e201.a = some e201.r := by kernel_rfl
theorem r42 : callWith L 8 (execM L (memo []) 1000) e42.f e42.a = some e42.r := by kernel_rfl
theorem r204 : fcall L (memo [e203]) 1000 e204.f e204.a = some e204.r := by kernel_rfl
theorem r210 : fcall L (memo [e209]) 1000 e210.f e210.a = some e210.r := by kernel_rfl
theorem r224 : fcall L (memo [e223]) 1000 e224.f e224.a = some e224.r := by kernel_rfl
theorem r91 : callWith L 8 (execM L (memo [e43]) 1000) e91.f e91.a = some e91.r := by kernel_rfl
theorem r170 : callWith L 8 (execM L (memo [e139,e169]) 1000) e170.f e170.a = some e170.r := by kernel_rfl
theorem r41 : callWith L 8 (execM L (memo [e40]) 1000) e41.f e41.a = some e41.r := by kernel_rfl
theorem r136 : callWith L 8 (execM L (memo []) 1000) e136.f e136.a = some e136.r := by kernel_rfl
theorem r243 : callWith L 8 (execM L (memo [e42]) 1000) e243.f e243.a = some e243.r := by kernel_rfl
theorem r183 : fcall L (memo [e57]) 1000 e183.f e183.a = some e183.r := by kernel_rfl
theorem r95 : callWith L 8 (execM L (memo []) 1000) e95.f e95.a = some e95.r := by kernel_rfl
theorem r214 : fcall L (memo []) 1000 e214.f e214.a = some e214.r := by kernel_rfl
theorem r83 : fcall L (memo []) 1000 e83.f e83.a = some e83.r := by kernel_rfl
theorem r93 : callWith L 8 (execM L (memo []) 1000) e93.f e93.a = some e93.r := by kernel_rfl
theorem r92 : callWith L 8 (execM L (memo [e91]) 1000) e92.f e92.a = some e92.r := by kernel_rfl
theorem r87 : callWith L 8 (execM L (memo []) 1000) e87.f e87.a = some e87.r := by kernel_rfl
theorem r151 : fcall L (memo []) 1000 e151.f e151.a = some e151.r := by kernel_rfl
theorem r181 : fcall L (memo []) 1000 e181.f e181.a = some e181.r := by kernel_rfl
theorem r49 : callWith L 8 (execM L (memo []) 1000) e49.f e49.a = some e49.r := by kernel_rfl
theorem r140 : callWith L 8 (execM L (memo []) 1000) e140.f e140.a = some e140.r := by kernel_rfl
theorem r54 : fcall L (memo []) 1000 e54.f e54.a = some e54.r := by kernel_rfl
theorem r144 : fcall L (memo []) 1000 e144.f e144.a = some e144.r := by kernel_rfl
end Go.Proofs.YtcoemakddkfdcaaGreat
