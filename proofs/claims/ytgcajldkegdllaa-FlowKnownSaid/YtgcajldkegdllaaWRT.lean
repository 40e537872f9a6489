/- Orders of regions. -/
import Derived.Test.YtgcajldkegdllaaSlV13
namespace Go.Proofs.Ytgcajldkegdllaa
open Go Go.SL
def o10 : Orders := [(6, [[.q 0, .q 1, .q 4, .q 5, .q 2, .q 6, .q 3, .q 7, .q 8]])]
def o21 : Orders := [(8, [[.q 0, .q 1, .q 6, .q 2, .q 3, .h false 4, .q 5]])]
def o31 : Orders := [(6, [[.q 0, .q 1, .q 4, .q 5, .q 2, .q 6, .q 3, .q 7, .q 8, .q 9]]), (11, [[.q 0, .q 1, .q 4, .q 5, .q 2, .q 6, .q 3, .q 7, .q 8, .q 9]])]
def o36 : Orders := [(4, [[.q 0, .q 1, .q 2, .q 3, .q 4, .q 5, .q 8, .q 9, .q 6, .q 10, .q 7, .q 11, .q 12, .h false 13, .q 14]]), (6, [[.q 0, .q 1, .f 2, .f 3, .q 5, .q 6, .q 10, .q 11, .f 4, .q 7, .q 12, .q 8, .q 13, .q 9, .q 14, .h true 15, .q 16, .h true 17]])]
def tb : OTabs := [((10 : Nat), o10), ((21 : Nat), o21), ((31 : Nat), o31), ((36 : Nat), o36)]
end Go.Proofs.Ytgcajldkegdllaa
