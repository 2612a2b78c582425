/- The examples of the chapter, reckoned: runs, part 2. -/
import Derived.Test.YtcoemakddkfdcaaGreatDA
set_option linter.all false
namespace Go.Proofs.YtcoemakddkfdcaaGreat
open Go.Abs Go.Proofs
theorem r6 : callWith L 8 (execM L (memo [e3,e4,e5]) 1000) e6.f e6.a = some e6.r := by kernel_rfl
theorem r117 : callWith L 8 (execM L (memo []) 1000) e117.f e117.a = some e117.r := by kernel_rfl
theorem r25 : callWith L 8 (execM L (memo []) 1000) e25.f e25.a = some e25.r := by kernel_rfl
theorem r29 : callWith L 8 (execM L (memo []) 1000) e29.f e29.a = some e29.r := by kernel_rfl
theorem r33 : callWith L 8 (execM L (memo []) 1000) e33.f e33.a = some e33.r := by kernel_rfl
theorem r37 : callWith L 8 (execM L (memo []) 1000) e37.f e37.a = some e37.r := by kernel_rfl
theorem r116 : callWith L 8 (execM L (memo []) 1000) e116.f e116.a = some e116.r := by kernel_rfl
theorem r122 : callWith L 8 (execM L (memo []) 1000) e122.f e122.a = some e122.r := by kernel_rfl
theorem r126 : callWith L 8 (execM L (memo []) 1000) e126.f e126.a = some e126.r := by kernel_rfl
theorem r85 : fcall L (memo [e54,e55,e56,e62,e63,e64,e65,e67,e68,e70,e71,e72,e73,e74,e75,e76,e77,e78,e79,e80,e81,e82,e83,e84]) 1000 e85.f e85.a = some e85.r := by kernel_rfl
theorem r9 : callWith L 8 (execM L (memo []) 1000) e9.f e9.a = some e9.r := by kernel_rfl
theorem r13 : callWith L 8 (execM L (memo []) 1000) e13.f e13.a = some e13.r := by kernel_rfl
theorem r17 : callWith L 8 (execM L (memo []) 1000) e17.f e17.a = some e17.r := by kernel_rfl
theorem r21 : callWith L 8 (execM L (memo []) 1000) e21.f e21.a = some e21.r := by kernel_rfl
theorem r100 : callWith L 8 (execM L (memo []) 1000) e100.f e100.a = some e100.r := by kernel_rfl
theorem r104 : callWith L 8 (execM L (memo []) 1000) e104.f e104.a = some e104.r := by kernel_rfl
theorem r108 : callWith L 8 (execM L (memo []) 1000) e108.f e108.a = some e108.r := by kernel_rfl
theorem r112 : callWith L 8 (execM L (memo []) 1000) e112.f e112.a = some e112.r := by kernel_rfl
theorem r189 : fcall L (memo [e57,e59,e145,e174,e188,e60]) 1000 e189.f e189.a = some e189.r := by kernel_rfl
theorem r184 : fcall L (memo [e57,e59,e145,e174,e60]) 1000 e184.f e184.a = some e184.r := by kernel_rfl
theorem r192 : fcall L (memo [e57,e59,e145,e174,e60]) 1000 e192.f e192.a = some e192.r := by kernel_rfl
theorem r196 : fcall L (memo [e57,e59,e145,e174,e60]) 1000 e196.f e196.a = some e196.r := by kernel_rfl
theorem r156 : fcall L (memo [e57,e59,e155,e145,e146,e60]) 1000 e156.f e156.a = some e156.r := by kernel_rfl
theorem r150 : fcall L (memo [e57,e59,e145,e146,e60]) 1000 e150.f e150.a = some e150.r := by kernel_rfl
theorem r159 : fcall L (memo [e57,e59,e145,e146,e60]) 1000 e159.f e159.a = some e159.r := by kernel_rfl
theorem r163 : fcall L (memo [e57,e59,e145,e146,e60]) 1000 e163.f e163.a = some e163.r := by kernel_rfl
theorem r81 : fcall L (memo [e57,e66,e59,e69,e60]) 1000 e81.f e81.a = some e81.r := by kernel_rfl
theorem r64 : fcall L (memo [e57,e59,e60]) 1000 e64.f e64.a = some e64.r := by kernel_rfl
theorem r72 : fcall L (memo [e57,e59,e60]) 1000 e72.f e72.a = some e72.r := by kernel_rfl
theorem r76 : fcall L (memo [e57,e59,e60]) 1000 e76.f e76.a = some e76.r := by kernel_rfl
theorem r80 : fcall L (memo [e57,e59,e60]) 1000 e80.f e80.a = some e80.r := by kernel_rfl
theorem r82 : fcall L (memo []) 1000 e82.f e82.a = some e82.r := by kernel_rfl
theorem r230 : fcall L (memo [e54,e55,e143,e144,e56,e147]) 1000 e230.f e230.a = some e230.r := by kernel_rfl
theorem r138 : callWith L 8 (execM L (memo [e135,e136]) 1000) e138.f e138.a = some e138.r := by kernel_rfl
theorem r203 : fcall L (memo [e177,e178,e179,e182,e184,e186,e187,e189,e190,e191,e192,e193,e194,e195,e196,e197]) 1000 e203.f e203.a = some e203.r := by kernel_rfl
theorem r211 : fcall L (memo [e177,e178,e179,e182,e184,e186,e187,e189,e190,e191,e192,e193,e194,e195,e196,e197]) 1000 e211.f e211.a = some e211.r := by kernel_rfl
theorem r225 : fcall L (memo [e148,e149,e150,e153,e154,e156,e157,e158,e159,e160,e161,e162,e163,e164,e165,e166]) 1000 e225.f e225.a = some e225.r := by kernel_rfl
theorem r1 : callWith L 8 (execM L (memo []) 1000) e1.f e1.a = some e1.r := by kernel_rfl
theorem r171 : callWith L 8 (execM L (memo [e86,e135,e136,e168,e48,e170]) 1000) e171.f e171.a = some e171.r := by kernel_rfl
theorem r40 : callWith L 8 (execM L (memo []) 1000) e40.f e40.a = some e40.r := by kernel_rfl
theorem r206 : fcall L (memo [e205]) 1000 e206.f e206.a = some e206.r := by kernel_rfl
theorem r220 : fcall L (memo [e219]) 1000 e220.f e220.a = some e220.r := by kernel_rfl
theorem r228 : fcall L (memo [e227]) 1000 e228.f e228.a = some e228.r := by kernel_rfl
theorem r51 : callWith L 8 (execM L (memo [e49,e50]) 1000) e51.f e51.a = some e51.r := by kernel_rfl
theorem r59 : fcall L (memo [e58]) 1000 e59.f e59.a = some e59.r := by kernel_rfl
theorem r43 : callWith L 8 (execM L (memo [e42]) 1000) e43.f e43.a = some e43.r := by kernel_rfl
theorem r237 : callWith L 8 (execM L (memo [e42]) 1000) e237.f e237.a = some e237.r := by kernel_rfl
theorem r132 : callWith L 8 (execM L (memo [e131]) 1000) e132.f e132.a = some e132.r := by kernel_rfl
theorem r60 : fcall L (memo []) 1000 e60.f e60.a = some e60.r := by kernel_rfl
theorem r0 : fcall L (memo []) 1000 e0.f e0.a = some e0.r := by kernel_rfl
theorem r215 : fcall L (memo []) 1000 e215.f e215.a = some e215.r := by kernel_rfl
theorem r213 : fcall L (memo []) 1000 e213.f e213.a = some e213.r := by kernel_rfl
theorem r48 : callWith L 8 (execM L (memo []) 1000) e48.f e48.a = some e48.r := by kernel_rfl
theorem r94 : callWith L 8 (execM L (memo []) 1000) e94.f e94.a = some e94.r := by kernel_rfl
theorem r66 : fcall L (memo []) 1000 e66.f e66.a = some e66.r := by kernel_rfl
theorem r155 : fcall L (memo []) 1000 e155.f e155.a = some e155.r := by kernel_rfl
theorem r188 : fcall L (memo []) 1000 e188.f e188.a = some e188.r := by kernel_rfl
theorem r90 : callWith L 8 (execM L (memo []) 1000) e90.f e90.a = some e90.r := by kernel_rfl
theorem r3 : callWith L 8 (execM L (memo []) 1000) e3.f e3.a = some e3.r := by kernel_rfl
theorem r56 : fcall L (memo []) 1000 e56.f e56.a = some e56.r := by kernel_rfl
theorem r173 : fcall L (memo []) 1000 e173.f e173.a = some e173.r := by kernel_rfl
end Go.Proofs.YtcoemakddkfdcaaGreat
