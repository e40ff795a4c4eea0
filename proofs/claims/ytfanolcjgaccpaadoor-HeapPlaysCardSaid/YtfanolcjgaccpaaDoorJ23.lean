/- HeapPlays: the order of the last region's operations, checked. -/
import Derived.Test.YtfanolcjgaccpaaDoorJ22
namespace Go.Proofs.YtfanolcjgaccpaaDoor
open Go Go.RowKit
set_option maxRecDepth 1000000
def opsOf : Code → List Oper
  | .region _ l _ => l.toList
  | _ => []
theorem ok58 : allB .any (opsOf (hpAt [1, 1, 1, 1, 0, 1, 0, 0, 1, 0, 0, 1, 1, 1, 1, 1, 1, 1, 1, 1, 1, 0])).toArray [(true, 0), (true, 1), (true, 2), (true, 3), (true, 4), (true, 5), (true, 6), (true, 7), (true, 8), (true, 9), (true, 10), (true, 11), (true, 12), (true, 13), (true, 14), (true, 15), (true, 16), (true, 17), (true, 18), (true, 19), (true, 20), (true, 21), (true, 22), (true, 23), (true, 24), (true, 25), (true, 26), (true, 27), (true, 28), (true, 29), (true, 30), (true, 31), (true, 33), (true, 34), (true, 35), (true, 36), (true, 37), (false, 32), (false, 38), (true, 39), (true, 40), (true, 41), (true, 42), (true, 43), (true, 44), (true, 45), (true, 47), (true, 48), (true, 49), (true, 50), (true, 51), (false, 46), (false, 52), (true, 53), (true, 54), (true, 55), (true, 56), (true, 57), (true, 60), (true, 61), (true, 62), (false, 58), (false, 59), (false, 63), (true, 64), (true, 65), (true, 66), (true, 67), (true, 68), (true, 70), (false, 69), (true, 71), (true, 72), (true, 73), (true, 74), (true, 75), (true, 77), (false, 76), (true, 78), (true, 79), (true, 80), (true, 81), (true, 82), (true, 84), (false, 83)] [85, 86] = true := by kernel_rfl
end Go.Proofs.YtfanolcjgaccpaaDoor
