/- The examples of the chapter, reckoned: part B. -/
import Derived.Test.YtmnchlhngpdffaaGreatEA
set_option linter.all false
namespace Go.Proofs.YtmnchlhngpdffaaGreat
open Go.Abs Go.Proofs
def v2 :Val:= .agg [.int .i64 1,.int .i64 1,.str ⟨#[]⟩,.fz [],.fz []]
def v3 :Val:= .agg [.int .i64 4,.int .i64 0,.str ⟨#[99]⟩,.fz [],.fz []]
def v4 :Val:= .agg [.int .i64 17,.int .i64 0,.str ⟨#[]⟩,.fz [v3],.fz []]
def v5 :Val:= .agg [.str ⟨#[97]⟩,.fz [],.fz [.agg [.str ⟨#[109,97,105,110]⟩,.str ⟨#[117]⟩,.int .i64 3,.int .i64 0,.str ⟨#[]⟩,.fz [],.int .i64 1,.int .i64 0,.str ⟨#[]⟩,.fz [],.int .i64 7,.int .i64 0,.str ⟨#[99]⟩,.fz [.agg [.int .i64 16,.int .i64 0,.str ⟨#[]⟩,.fz [v2],.fz []],.agg [.int .i64 7,.int .i64 0,.str ⟨#[120]⟩,.fz [.agg [.int .i64 24,.int .i64 0,.str ⟨#[]⟩,.fz [v4],.fz []],.agg [.int .i64 7,.int .i64 0,.str ⟨#[121]⟩,.fz [.agg [.int .i64 18,.int .i64 0,.str ⟨#[]⟩,.fz [v3,.agg [.int .i64 25,.int .i64 0,.str ⟨#[]⟩,.fz [],.fz []]],.fz []],.agg [.int .i64 9,.int .i64 0,.str ⟨#[]⟩,.fz [v4,v2],.fz []]],.fz []]],.fz []]],.fz []]]]
def l42 :List aV:=⟨110,[v1],.tup [v5,.int .i64 0]⟩::m41
theorem k42 :bC L l42:=j41.step (by kernel_rfl)
def l43 :List aV:=⟨154,[.fz [],.str ⟨#[109,97,105,110]⟩],.bool false⟩::l42
theorem k43 :bC L l43:=k42.step (by kernel_rfl)
def l44 :List aV:=⟨154,[.fz [.str ⟨#[109,97,105,110]⟩],.str ⟨#[109,97,105,110]⟩],.bool true⟩::l43
theorem k44 :bC L l44:=k43.step (by kernel_rfl)
def l45 :List aV:=⟨154,[.fz [.str ⟨#[117]⟩,.str ⟨#[99]⟩],.str ⟨#[99]⟩],.bool true⟩::l44
theorem k45 :bC L l45:=k44.step (by kernel_rfl)
def l46 :List aV:=⟨154,[.fz [.str ⟨#[117]⟩,.str ⟨#[99]⟩,.str ⟨#[120]⟩],.str ⟨#[99]⟩],.bool true⟩::l45
theorem k46 :bC L l46:=k45.step (by kernel_rfl)
def l47 :List aV:=⟨154,[.fz [.str ⟨#[117]⟩,.str ⟨#[99]⟩,.str ⟨#[120]⟩,.str ⟨#[121]⟩],.str ⟨#[99]⟩],.bool true⟩::l46
theorem k47 :bC L l47:=k46.step (by kernel_rfl)
def v6 :Val:= .agg [.int .i64 1,.int .i64 1,.fz [],.fz []]
def v7 :Val:= .agg [.int .i64 4,.int .i64 1,.fz [],.fz []]
def v8 :Val:= .agg [.fz [.agg [.int .i64 7,.int .i64 0,.fz [.int .i64 1,.int .i64 3],.fz []],.agg [.int .i64 16,.int .i64 0,.fz [.int .i64 2],.fz []],v6,.agg [.int .i64 7,.int .i64 0,.fz [.int .i64 4,.int .i64 7],.fz []],.agg [.int .i64 24,.int .i64 0,.fz [.int .i64 5],.fz []],.agg [.int .i64 17,.int .i64 0,.fz [.int .i64 6],.fz []],v7,.agg [.int .i64 7,.int .i64 0,.fz [.int .i64 8,.int .i64 11],.fz []],.agg [.int .i64 18,.int .i64 0,.fz [.int .i64 9,.int .i64 10],.fz []],v7,.agg [.int .i64 25,.int .i64 0,.fz [],.fz []],.agg [.int .i64 9,.int .i64 0,.fz [.int .i64 12,.int .i64 14],.fz []],.agg [.int .i64 17,.int .i64 0,.fz [.int .i64 13],.fz []],v7,v6],.fz [.int .i64 0],.int .i64 0,.fz []]
def l48 :List aV:=⟨111,[v5],.tup [v8,.int .i64 0]⟩::l47
theorem k48 :bC L l48:=k47.step (by kernel_rfl)
def l49 :List aV:=⟨50,[],v8⟩::l48
theorem k49 :bC L l49:=k48.step (by kernel_rfl)
def m49 :List aV:=[⟨50,[],v8⟩]
theorem j49 :bC L m49:=k49.one
end Go.Proofs.YtmnchlhngpdffaaGreat
