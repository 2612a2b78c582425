/- The examples of the chapter, reckoned: part C. -/
import Derived.Test.YtjcfpkokcepheabGreatDB
set_option linter.all false
namespace Go.Proofs.YtjcfpkokcepheabGreat
open Go.Abs Go.Proofs
def v26 : Val := .agg [.i 4,.i 1,.i 2,.i 7,.bool true,.str ⟨#[100]⟩]
def v27 : Val := .str ⟨#[90,0,0,0,4,1,2,7,1,1,100,0,0,0,0,0,0,0,0,0,0,0,0,165]⟩
def l100 : List Known1 := ⟨F.R16_write,[v26],v27⟩ :: l99
theorem k100 : Knows L l100 := k99.step (by kernel_rfl)
def v28 : Val := .fz [.agg [.i 3,.bool false,.str ⟨#[]⟩],.agg [.i 7,.bool true,.str ⟨#[100]⟩]]
def v29 : Val := .agg [.i 1,.i 2,v25]
def v30 : Val := .agg [.i 1,.i 3,v27]
def v31 : Val := .fz [v29,v30,v11]
def v32 : Val := .tup [v31,.i 0]
def l101 : List Known1 := ⟨F.R16_Append,[v15,v28],v32⟩ :: l100
theorem k101 : Knows L l101 := k100.step (by kernel_rfl)
def l102 : List Known1 := ⟨F.R16_allowed,[v15,v29],.bool true⟩ :: l101
theorem k102 : Knows L l102 := k101.step (by kernel_rfl)
def l103 : List Known1 := ⟨F.R16_allowed,[.agg [v14,.fz [v29]],v30],.bool true⟩ :: l102
theorem k103 : Knows L l103 := k102.step (by kernel_rfl)
def v33 : Val := .fz [v29,v30]
def v34 : Val := .agg [v14,v33]
def l104 : List Known1 := ⟨F.R16_allowed,[v34,v11],.bool true⟩ :: l103
theorem k104 : Knows L l104 := k103.step (by kernel_rfl)
def l105 : List Known1 := ⟨F.R16_begun,[v0,v25,.i 24],v25⟩ :: l104
theorem k105 : Knows L l105 := k104.step (by kernel_rfl)
def l106 : List Known1 := ⟨F.R16_begun,[v0,v27,.i 24],v27⟩ :: l105
theorem k106 : Knows L l106 := k105.step (by kernel_rfl)
def v35 : Val := .fz [v6,v8,v25,v27,v0,v0,v0,v0,v0,v0,v0,v0,v0,v0,v0,v0,v0,v0,v0,v0,v0,v0,v0,v0,v0,v0,v0,v0,v0,v0,v0,v0,v0,v0,v0,v0,v0,v0,v0,v0,v0,v0,v0,v0,v0,v0,v0,v0]
def l107 : List Known1 := ⟨F.R16_happened,[v34,.fz [.i 24,.i 24]],v35⟩ :: l106
theorem k107 : Knows L l107 := k106.step (by kernel_rfl)
def v36 : Val := .agg [v35,.fz []]
def l108 : List Known1 := ⟨F.R16_Do,[v15,v31],.tup [v36,.i 0,.i 0]⟩ :: l107
theorem k108 : Knows L l108 := k107.step (by kernel_rfl)
def l109 : List Known1 := ⟨F.W16_B,[],v36⟩ :: l108
theorem k109 : Knows L l109 := k108.step (by kernel_rfl)
end Go.Proofs.YtjcfpkokcepheabGreat
