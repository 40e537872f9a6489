/- Orders of regions. -/
import Derived.Test.YtifhhfeibnpaoaaSlV13
namespace Go.Proofs.Ytifhhfeibnpaoaa
open Go Go.SL
def o13 : Orders := [(6, [[.q 0, .q 1, .q 4, .q 5, .q 2, .q 6, .q 3, .q 7, .q 8]])]
def o18 : Orders := [(5, [[.q 0, .q 2, .q 3, .q 7, .q 8, .q 1, .q 4, .q 9, .q 5, .q 10, .q 6, .q 11, .q 12, .an 13, .rv 13, .h true 14, .q 15, .h true 16]])]
def o40 : Orders := [(7, [[.q 1, .q 2, .h false 0, .q 3, .q 4, .q 5, .q 6, .q 7, .q 8]])]
def o47 : Orders := [(6, [[.q 0, .q 1, .q 4, .q 5, .q 2, .q 6, .q 3, .q 7, .q 8, .q 9]]), (11, [[.q 0, .q 1, .q 4, .q 5, .q 2, .q 6, .q 3, .q 7, .q 8, .q 9]])]
def o62 : Orders := [(4, [[.q 0, .q 1, .q 2, .q 3, .q 4, .q 5, .q 8, .q 9, .q 6, .q 10, .q 7, .q 11, .q 12, .h false 13, .q 14]]), (6, [[.q 0, .q 1, .f 2, .f 3, .q 5, .q 6, .q 10, .q 11, .f 4, .q 7, .q 12, .q 8, .q 13, .q 9, .q 14, .h true 15, .q 16, .h true 17]])]
def tb : OTabs := [((13 : Nat), o13), ((18 : Nat), o18), ((40 : Nat), o40), ((47 : Nat), o47), ((62 : Nat), o62)]
end Go.Proofs.Ytifhhfeibnpaoaa
