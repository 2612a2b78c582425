/- The examples of the chapter, reckoned: part B. -/
import Derived.Test.YtmnchlhngpdffaaGreatEA
set_option linter.all false
namespace Go.Proofs.YtmnchlhngpdffaaGreat
open Go.Abs Go.Proofs
def v54 : Val := .agg [.int .i64 1,.int .i64 1,.str ⟨#[]⟩,.fz [],.fz []]
def v55 : Val := .agg [.int .i64 4,.int .i64 0,.str ⟨#[99]⟩,.fz [],.fz []]
def v56 : Val := .agg [.int .i64 17,.int .i64 0,.str ⟨#[]⟩,.fz [v55],.fz []]
def v57 : Val := .agg [.str ⟨#[97]⟩,.fz [],.fz [.agg [.str ⟨#[109,97,105,110]⟩,.str ⟨#[117]⟩,.int .i64 3,.int .i64 0,.str ⟨#[]⟩,.fz [],.int .i64 1,.int .i64 0,.str ⟨#[]⟩,.fz [],.int .i64 7,.int .i64 0,.str ⟨#[99]⟩,.fz [.agg [.int .i64 16,.int .i64 0,.str ⟨#[]⟩,.fz [v54],.fz []],.agg [.int .i64 7,.int .i64 0,.str ⟨#[120]⟩,.fz [.agg [.int .i64 24,.int .i64 0,.str ⟨#[]⟩,.fz [v56],.fz []],.agg [.int .i64 7,.int .i64 0,.str ⟨#[121]⟩,.fz [.agg [.int .i64 18,.int .i64 0,.str ⟨#[]⟩,.fz [v55,.agg [.int .i64 25,.int .i64 0,.str ⟨#[]⟩,.fz [],.fz []]],.fz []],.agg [.int .i64 9,.int .i64 0,.str ⟨#[]⟩,.fz [v56,v54],.fz []]],.fz []]],.fz []]],.fz []]]]
def l175 : List Known1 := ⟨F.R02_ParseModule,[v0],.tup [v57,.int .i64 0]⟩ :: m174
theorem k175 : Knows L l175 := j174.step (by kernel_rfl)
def l176 : List Known1 := ⟨F.R01_Has,[.fz [],.str ⟨#[109,97,105,110]⟩],.bool false⟩ :: l175
theorem k176 : Knows L l176 := k175.step (by kernel_rfl)
def l177 : List Known1 := ⟨F.R01_Has,[.fz [.str ⟨#[109,97,105,110]⟩],.str ⟨#[109,97,105,110]⟩],.bool true⟩ :: l176
theorem k177 : Knows L l177 := k176.step (by kernel_rfl)
def l178 : List Known1 := ⟨F.R01_Has,[.fz [.str ⟨#[117]⟩,.str ⟨#[99]⟩],.str ⟨#[99]⟩],.bool true⟩ :: l177
theorem k178 : Knows L l178 := k177.step (by kernel_rfl)
def l179 : List Known1 := ⟨F.R01_Has,[.fz [.str ⟨#[117]⟩,.str ⟨#[99]⟩,.str ⟨#[120]⟩],.str ⟨#[99]⟩],.bool true⟩ :: l178
theorem k179 : Knows L l179 := k178.step (by kernel_rfl)
def l180 : List Known1 := ⟨F.R01_Has,[.fz [.str ⟨#[117]⟩,.str ⟨#[99]⟩,.str ⟨#[120]⟩,.str ⟨#[121]⟩],.str ⟨#[99]⟩],.bool true⟩ :: l179
theorem k180 : Knows L l180 := k179.step (by kernel_rfl)
def v58 : Val := .agg [.int .i64 1,.int .i64 1,.fz [],.fz []]
def v59 : Val := .agg [.int .i64 4,.int .i64 1,.fz [],.fz []]
def v60 : Val := .fz [.agg [.int .i64 7,.int .i64 0,.fz [.int .i64 1,.int .i64 3],.fz []],.agg [.int .i64 16,.int .i64 0,.fz [.int .i64 2],.fz []],v58,.agg [.int .i64 7,.int .i64 0,.fz [.int .i64 4,.int .i64 7],.fz []],.agg [.int .i64 24,.int .i64 0,.fz [.int .i64 5],.fz []],.agg [.int .i64 17,.int .i64 0,.fz [.int .i64 6],.fz []],v59,.agg [.int .i64 7,.int .i64 0,.fz [.int .i64 8,.int .i64 11],.fz []],.agg [.int .i64 18,.int .i64 0,.fz [.int .i64 9,.int .i64 10],.fz []],v59,.agg [.int .i64 25,.int .i64 0,.fz [],.fz []],.agg [.int .i64 9,.int .i64 0,.fz [.int .i64 12,.int .i64 14],.fz []],.agg [.int .i64 17,.int .i64 0,.fz [.int .i64 13],.fz []],v59,v58]
def v61 : Val := .agg [v60,.fz [.int .i64 0],.int .i64 0,.fz []]
def l181 : List Known1 := ⟨F.R05_Bind,[v57],.tup [v61,.int .i64 0]⟩ :: l180
theorem k181 : Knows L l181 := k180.step (by kernel_rfl)
def l182 : List Known1 := ⟨F.W23_P,[],v61⟩ :: l181
theorem k182 : Knows L l182 := k181.step (by kernel_rfl)
def m182 : List Known1 := [⟨F.W23_P,[],v61⟩]
theorem j182 : Knows L m182 := k182.one
end Go.Proofs.YtmnchlhngpdffaaGreat
