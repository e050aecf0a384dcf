-- by a program of this session
import Derived.Test.YthlnjbaichkipaaDoorZWWords
set_option linter.unusedVariables false
set_option linter.unusedSimpArgs false
namespace Go.Proofs.YthlnjbaichkipaaDoor.XR
def sum_tab : List Int := [0, 274646895, 549293790, 820201905, 1098587580, 1361435347, 1640403810, 1905808397, 2197175160, 2460548119, 2722870694, 2987750089, 3280807620, 3553878443, 3811616794, 4084100981]
def sum_tb (i : Int) : Int := sum_tab.getD i.toNat 0
end Go.Proofs.YthlnjbaichkipaaDoor.XR
