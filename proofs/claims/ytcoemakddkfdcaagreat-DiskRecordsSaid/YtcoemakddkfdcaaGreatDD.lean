/- The examples of the chapter, reckoned: runs, part 3. -/
import Derived.Test.YtcoemakddkfdcaaGreatDA
set_option linter.all false
namespace Go.Proofs.YtcoemakddkfdcaaGreat
open Go.Abs Go.Proofs
theorem r175 : fcall L (memo [e57,e59,e145,e174,e60]) 1000 e175.f e175.a = some e175.r := by kernel_rfl
theorem r61 : fcall L (memo [e57,e59,e60]) 1000 e61.f e61.a = some e61.r := by kernel_rfl
theorem r24 : callWith L 8 (execM L (memo []) 1000) e24.f e24.a = some e24.r := by kernel_rfl
theorem r28 : callWith L 8 (execM L (memo []) 1000) e28.f e28.a = some e28.r := by kernel_rfl
theorem r32 : callWith L 8 (execM L (memo []) 1000) e32.f e32.a = some e32.r := by kernel_rfl
theorem r36 : callWith L 8 (execM L (memo []) 1000) e36.f e36.a = some e36.r := by kernel_rfl
theorem r115 : callWith L 8 (execM L (memo []) 1000) e115.f e115.a = some e115.r := by kernel_rfl
theorem r121 : callWith L 8 (execM L (memo []) 1000) e121.f e121.a = some e121.r := by kernel_rfl
theorem r125 : callWith L 8 (execM L (memo []) 1000) e125.f e125.a = some e125.r := by kernel_rfl
theorem r129 : callWith L 8 (execM L (memo []) 1000) e129.f e129.a = some e129.r := by kernel_rfl
theorem r8 : callWith L 8 (execM L (memo []) 1000) e8.f e8.a = some e8.r := by kernel_rfl
theorem r12 : callWith L 8 (execM L (memo []) 1000) e12.f e12.a = some e12.r := by kernel_rfl
theorem r16 : callWith L 8 (execM L (memo []) 1000) e16.f e16.a = some e16.r := by kernel_rfl
theorem r20 : callWith L 8 (execM L (memo []) 1000) e20.f e20.a = some e20.r := by kernel_rfl
theorem r99 : callWith L 8 (execM L (memo []) 1000) e99.f e99.a = some e99.r := by kernel_rfl
theorem r103 : callWith L 8 (execM L (memo []) 1000) e103.f e103.a = some e103.r := by kernel_rfl
theorem r107 : callWith L 8 (execM L (memo []) 1000) e107.f e107.a = some e107.r := by kernel_rfl
theorem r111 : callWith L 8 (execM L (memo []) 1000) e111.f e111.a = some e111.r := by kernel_rfl
theorem r186 : fcall L (memo [e57,e59,e185,e145,e174,e60]) 1000 e186.f e186.a = some e186.r := by kernel_rfl
theorem r179 : fcall L (memo [e57,e59,e145,e174,e60]) 1000 e179.f e179.a = some e179.r := by kernel_rfl
theorem r191 : fcall L (memo [e57,e59,e145,e174,e60]) 1000 e191.f e191.a = some e191.r := by kernel_rfl
theorem r195 : fcall L (memo [e57,e59,e145,e174,e60]) 1000 e195.f e195.a = some e195.r := by kernel_rfl
theorem r200 : fcall L (memo [e57,e180,e59,e185,e145,e181,e174,e188,e60]) 1000 e200.f e200.a = some e200.r := by kernel_rfl
theorem r149 : fcall L (memo [e57,e59,e145,e146,e60]) 1000 e149.f e149.a = some e149.r := by kernel_rfl
theorem r158 : fcall L (memo [e57,e59,e145,e146,e60]) 1000 e158.f e158.a = some e158.r := by kernel_rfl
theorem r162 : fcall L (memo [e57,e59,e145,e146,e60]) 1000 e162.f e162.a = some e162.r := by kernel_rfl
theorem r166 : fcall L (memo [e57,e59,e145,e146,e60]) 1000 e166.f e166.a = some e166.r := by kernel_rfl
theorem r63 : fcall L (memo [e57,e59,e60]) 1000 e63.f e63.a = some e63.r := by kernel_rfl
theorem r71 : fcall L (memo [e57,e59,e60]) 1000 e71.f e71.a = some e71.r := by kernel_rfl
theorem r75 : fcall L (memo [e57,e59,e60]) 1000 e75.f e75.a = some e75.r := by kernel_rfl
theorem r79 : fcall L (memo [e57,e59,e60]) 1000 e79.f e79.a = some e79.r := by kernel_rfl
theorem r241 : fcall L (memo [e54,e55,e56,e240]) 1000 e241.f e241.a = some e241.r := by kernel_rfl
theorem r202 : fcall L (memo []) 1000 e202.f e202.a = some e202.r := by kernel_rfl
theorem r44 : callWith L 8 (execM L (memo [e2,e6,e7,e8,e9,e10,e11,e12,e13,e14,e15,e16,e17,e18,e19,e20,e21,e22,e23,e24,e25,e26,e27,e28,e29,e30,e31,e32,e33,e34,e35,e36,e37,e38,e39,e41,e43]) 1000) e44.f e44.a = some e44.r := by kernel_rfl
theorem r2 : callWith L 8 (execM L (memo []) 1000) e2.f e2.a = some e2.r := by kernel_rfl
theorem r207 : fcall L (memo [e177,e178,e179,e182,e184,e186,e187,e189,e190,e191,e192,e193,e194,e195,e196,e197]) 1000 e207.f e207.a = some e207.r := by kernel_rfl
theorem r221 : fcall L (memo [e148,e149,e150,e153,e154,e156,e157,e158,e159,e160,e161,e162,e163,e164,e165,e166]) 1000 e221.f e221.a = some e221.r := by kernel_rfl
theorem r198 : fcall L (memo [e177,e178,e179,e182,e183,e184,e186,e187,e189,e190,e191,e192,e193,e194,e195,e196,e197]) 1000 e198.f e198.a = some e198.r := by kernel_rfl
theorem r244 : callWith L 8 (execM L (memo [e0,e53,e85,e142,e167,e172,e216,e229,e235,e132,e133,e236,e237,e238,e239,e241,e242,e243]) 1000) e244.f e244.a = some e244.r := by kernel_rfl
theorem r131 : callWith L 8 (execM L (memo []) 1000) e131.f e131.a = some e131.r := by kernel_rfl
theorem r199 : fcall L (memo [e198]) 1000 e199.f e199.a = some e199.r := by kernel_rfl
theorem r208 : fcall L (memo [e207]) 1000 e208.f e208.a = some e208.r := by kernel_rfl
theorem r222 : fcall L (memo [e221]) 1000 e222.f e222.a = some e222.r := by kernel_rfl
theorem r88 : callWith L 8 (execM L (memo [e41]) 1000) e88.f e88.a = some e88.r := by kernel_rfl
theorem r141 : callWith L 8 (execM L (memo [e139,e140]) 1000) e141.f e141.a = some e141.r := by kernel_rfl
theorem r174 : fcall L (memo [e84]) 1000 e174.f e174.a = some e174.r := by kernel_rfl
theorem r133 : callWith L 8 (execM L (memo [e42]) 1000) e133.f e133.a = some e133.r := by kernel_rfl
theorem r242 : callWith L 8 (execM L (memo [e40]) 1000) e242.f e242.a = some e242.r := by kernel_rfl
theorem r239 : callWith L 8 (execM L (memo [e131]) 1000) e239.f e239.a = some e239.r := by kernel_rfl
theorem r142 : callWith L 8 (execM L (memo [e53,e134,e137,e138,e141]) 1000) e142.f e142.a = some e142.r := by kernel_rfl
theorem r84 : fcall L (memo []) 1000 e84.f e84.a = some e84.r := by kernel_rfl
theorem r234 : fcall L (memo []) 1000 e234.f e234.a = some e234.r := by kernel_rfl
theorem r172 : callWith L 8 (execM L (memo [e53,e134,e171]) 1000) e172.f e172.a = some e172.r := by kernel_rfl
theorem r89 : callWith L 8 (execM L (memo [e88]) 1000) e89.f e89.a = some e89.r := by kernel_rfl
theorem r4 : callWith L 8 (execM L (memo []) 1000) e4.f e4.a = some e4.r := by kernel_rfl
theorem r69 : fcall L (memo []) 1000 e69.f e69.a = some e69.r := by kernel_rfl
theorem r180 : fcall L (memo []) 1000 e180.f e180.a = some e180.r := by kernel_rfl
theorem r5 : callWith L 8 (execM L (memo []) 1000) e5.f e5.a = some e5.r := by kernel_rfl
theorem r139 : callWith L 8 (execM L (memo []) 1000) e139.f e139.a = some e139.r := by kernel_rfl
theorem r47 : callWith L 8 (execM L (memo []) 1000) e47.f e47.a = some e47.r := by kernel_rfl
theorem r143 : fcall L (memo []) 1000 e143.f e143.a = some e143.r := by kernel_rfl
theorem r240 : fcall L (memo []) 1000 e240.f e240.a = some e240.r := by kernel_rfl
end Go.Proofs.YtcoemakddkfdcaaGreat
