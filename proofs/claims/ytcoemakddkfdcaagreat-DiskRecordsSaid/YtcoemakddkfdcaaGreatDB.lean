/- The examples of the chapter, reckoned: runs, part 1. -/
import Derived.Test.YtcoemakddkfdcaaGreatDA
set_option linter.all false
namespace Go.Proofs.YtcoemakddkfdcaaGreat
open Go.Abs Go.Proofs
theorem r97 : callWith L 8 (execM L (memo [e3,e87,e89,e90,e92,e93,e5,e96]) 1000) e97.f e97.a = some e97.r := by kernel_rfl
theorem r119 : callWith L 8 (execM L (memo []) 1000) e119.f e119.a = some e119.r := by kernel_rfl
theorem r26 : callWith L 8 (execM L (memo []) 1000) e26.f e26.a = some e26.r := by kernel_rfl
theorem r30 : callWith L 8 (execM L (memo []) 1000) e30.f e30.a = some e30.r := by kernel_rfl
theorem r34 : callWith L 8 (execM L (memo []) 1000) e34.f e34.a = some e34.r := by kernel_rfl
theorem r38 : callWith L 8 (execM L (memo []) 1000) e38.f e38.a = some e38.r := by kernel_rfl
theorem r118 : callWith L 8 (execM L (memo []) 1000) e118.f e118.a = some e118.r := by kernel_rfl
theorem r123 : callWith L 8 (execM L (memo []) 1000) e123.f e123.a = some e123.r := by kernel_rfl
theorem r127 : callWith L 8 (execM L (memo []) 1000) e127.f e127.a = some e127.r := by kernel_rfl
theorem r235 : fcall L (memo [e54,e55,e143,e144,e56,e230,e148,e149,e150,e153,e154,e156,e157,e158,e159,e160,e161,e162,e163,e164,e165,e166,e231,e232,e233,e234]) 1000 e235.f e235.a = some e235.r := by kernel_rfl
theorem r10 : callWith L 8 (execM L (memo []) 1000) e10.f e10.a = some e10.r := by kernel_rfl
theorem r14 : callWith L 8 (execM L (memo []) 1000) e14.f e14.a = some e14.r := by kernel_rfl
theorem r18 : callWith L 8 (execM L (memo []) 1000) e18.f e18.a = some e18.r := by kernel_rfl
theorem r22 : callWith L 8 (execM L (memo []) 1000) e22.f e22.a = some e22.r := by kernel_rfl
theorem r101 : callWith L 8 (execM L (memo []) 1000) e101.f e101.a = some e101.r := by kernel_rfl
theorem r105 : callWith L 8 (execM L (memo []) 1000) e105.f e105.a = some e105.r := by kernel_rfl
theorem r109 : callWith L 8 (execM L (memo []) 1000) e109.f e109.a = some e109.r := by kernel_rfl
theorem r113 : callWith L 8 (execM L (memo []) 1000) e113.f e113.a = some e113.r := by kernel_rfl
theorem r177 : fcall L (memo [e57,e59,e145,e174,e60]) 1000 e177.f e177.a = some e177.r := by kernel_rfl
theorem r187 : fcall L (memo [e57,e59,e145,e174,e60]) 1000 e187.f e187.a = some e187.r := by kernel_rfl
theorem r193 : fcall L (memo [e57,e59,e145,e174,e60]) 1000 e193.f e193.a = some e193.r := by kernel_rfl
theorem r197 : fcall L (memo [e57,e59,e145,e174,e60]) 1000 e197.f e197.a = some e197.r := by kernel_rfl
theorem r231 : fcall L (memo [e57,e151,e59,e155,e145,e152,e146,e60]) 1000 e231.f e231.a = some e231.r := by kernel_rfl
theorem r154 : fcall L (memo [e57,e59,e145,e146,e60]) 1000 e154.f e154.a = some e154.r := by kernel_rfl
theorem r160 : fcall L (memo [e57,e59,e145,e146,e60]) 1000 e160.f e160.a = some e160.r := by kernel_rfl
theorem r164 : fcall L (memo [e57,e59,e145,e146,e60]) 1000 e164.f e164.a = some e164.r := by kernel_rfl
theorem r67 : fcall L (memo [e57,e66,e59,e60]) 1000 e67.f e67.a = some e67.r := by kernel_rfl
theorem r65 : fcall L (memo [e57,e59,e60]) 1000 e65.f e65.a = some e65.r := by kernel_rfl
theorem r73 : fcall L (memo [e57,e59,e60]) 1000 e73.f e73.a = some e73.r := by kernel_rfl
theorem r77 : fcall L (memo [e57,e59,e60]) 1000 e77.f e77.a = some e77.r := by kernel_rfl
theorem r39 : callWith L 8 (execM L (memo []) 1000) e39.f e39.a = some e39.r := by kernel_rfl
theorem r229 : fcall L (memo [e54,e55,e143,e144,e56,e147,e218,e220,e222,e224,e226,e228]) 1000 e229.f e229.a = some e229.r := by kernel_rfl
theorem r176 : fcall L (memo [e54,e55,e143,e173,e56,e175]) 1000 e176.f e176.a = some e176.r := by kernel_rfl
theorem r134 : callWith L 8 (execM L (memo [e86,e97,e98,e99,e100,e101,e102,e103,e104,e105,e106,e107,e108,e109,e110,e111,e112,e113,e114,e115,e116,e117,e118,e119,e120,e121,e122,e123,e124,e125,e126,e127,e128,e129,e130,e132,e133]) 1000) e134.f e134.a = some e134.r := by kernel_rfl
theorem r205 : fcall L (memo [e177,e178,e179,e182,e184,e186,e187,e189,e190,e191,e192,e193,e194,e195,e196,e197]) 1000 e205.f e205.a = some e205.r := by kernel_rfl
theorem r219 : fcall L (memo [e148,e149,e150,e153,e154,e156,e157,e158,e159,e160,e161,e162,e163,e164,e165,e166]) 1000 e219.f e219.a = some e219.r := by kernel_rfl
theorem r227 : fcall L (memo [e148,e149,e150,e153,e154,e156,e157,e158,e159,e160,e161,e162,e163,e164,e165,e166]) 1000 e227.f e227.a = some e227.r := by kernel_rfl
theorem r216 : fcall L (memo [e176,e199,e201,e202,e204,e206,e208,e210,e212,e213,e214,e215]) 1000 e216.f e216.a = some e216.r := by kernel_rfl
theorem r52 : callWith L 8 (execM L (memo [e2,e45,e46,e47,e48,e51]) 1000) e52.f e52.a = some e52.r := by kernel_rfl
theorem r137 : callWith L 8 (execM L (memo [e86,e135,e136]) 1000) e137.f e137.a = some e137.r := by kernel_rfl
theorem r218 : fcall L (memo [e217]) 1000 e218.f e218.a = some e218.r := by kernel_rfl
theorem r212 : fcall L (memo [e211]) 1000 e212.f e212.a = some e212.r := by kernel_rfl
theorem r226 : fcall L (memo [e225]) 1000 e226.f e226.a = some e226.r := by kernel_rfl
theorem r96 : callWith L 8 (execM L (memo [e94,e95]) 1000) e96.f e96.a = some e96.r := by kernel_rfl
theorem r57 : fcall L (memo [e0]) 1000 e57.f e57.a = some e57.r := by kernel_rfl
theorem r145 : fcall L (memo [e83]) 1000 e145.f e145.a = some e145.r := by kernel_rfl
theorem r46 : callWith L 8 (execM L (memo []) 1000) e46.f e46.a = some e46.r := by kernel_rfl
theorem r238 : callWith L 8 (execM L (memo [e42]) 1000) e238.f e238.a = some e238.r := by kernel_rfl
theorem r236 : callWith L 8 (execM L (memo [e131]) 1000) e236.f e236.a = some e236.r := by kernel_rfl
theorem r146 : fcall L (memo []) 1000 e146.f e146.a = some e146.r := by kernel_rfl
theorem r58 : fcall L (memo []) 1000 e58.f e58.a = some e58.r := by kernel_rfl
theorem r233 : fcall L (memo []) 1000 e233.f e233.a = some e233.r := by kernel_rfl
theorem r53 : callWith L 8 (execM L (memo [e1,e44,e52]) 1000) e53.f e53.a = some e53.r := by kernel_rfl
theorem r45 : callWith L 8 (execM L (memo []) 1000) e45.f e45.a = some e45.r := by kernel_rfl
theorem r135 : callWith L 8 (execM L (memo []) 1000) e135.f e135.a = some e135.r := by kernel_rfl
theorem r152 : fcall L (memo []) 1000 e152.f e152.a = some e152.r := by kernel_rfl
theorem r185 : fcall L (memo []) 1000 e185.f e185.a = some e185.r := by kernel_rfl
theorem r50 : callWith L 8 (execM L (memo []) 1000) e50.f e50.a = some e50.r := by kernel_rfl
theorem r169 : callWith L 8 (execM L (memo []) 1000) e169.f e169.a = some e169.r := by kernel_rfl
theorem r55 : fcall L (memo []) 1000 e55.f e55.a = some e55.r := by kernel_rfl
theorem r168 : callWith L 8 (execM L (memo []) 1000) e168.f e168.a = some e168.r := by kernel_rfl
end Go.Proofs.YtcoemakddkfdcaaGreat
