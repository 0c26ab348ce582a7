/-
  One of chapter 2's tables: that its cases and its steps say the same of every number.
-/
import Derived.Test.YtlklgngdagebfaaTb
set_option linter.unusedVariables false
set_option linter.unusedSimpArgs false
namespace Go.Proofs.Ytlklgngdagebfaa.Tb

def joinL : List (List RC × Int) := [([.rg 768 879, .rg 1155 1161, .rg 1425 1469, .eq 1471, .rg 1473 1474, .rg 1476 1477, .eq 1479, .rg 1552 1562, .rg 1611 1631, .eq 1648, .rg 1750 1756, .rg 1759 1764, .rg 1767 1768, .rg 1770 1773, .eq 3633, .rg 3636 3642, .rg 3655 3662, .rg 6832 6911, .rg 7616 7679, .rg 8400 8447, .rg 12330 12333, .rg 12441 12442, .rg 65024 65039, .rg 65056 65071], 4), ([.rg 1570 1573, .eq 1575, .eq 1577, .rg 1583 1586, .rg 1608 1609], 1), ([.eq 1574, .eq 1576, .rg 1578 1582, .rg 1587 1594, .rg 1601 1607, .eq 1610], 2), ([.eq 1600, .eq 8205], 3)]
def joinD : Int := 0
def joinT : List (Int × Int) := [(0, 0), (768, 4), (880, 0), (1155, 4), (1162, 0), (1425, 4), (1470, 0), (1471, 4), (1472, 0), (1473, 4), (1475, 0), (1476, 4), (1478, 0), (1479, 4), (1480, 0), (1552, 4), (1563, 0), (1570, 1), (1574, 2), (1575, 1), (1576, 2), (1577, 1), (1578, 2), (1583, 1), (1587, 2), (1595, 0), (1600, 3), (1601, 2), (1608, 1), (1610, 2), (1611, 4), (1632, 0), (1648, 4), (1649, 0), (1750, 4), (1757, 0), (1759, 4), (1765, 0), (1767, 4), (1769, 0), (1770, 4), (1774, 0), (3633, 4), (3634, 0), (3636, 4), (3643, 0), (3655, 4), (3663, 0), (6832, 4), (6912, 0), (7616, 4), (7680, 0), (8205, 3), (8206, 0), (8400, 4), (8448, 0), (12330, 4), (12334, 0), (12441, 4), (12443, 0), (65024, 4), (65040, 0), (65056, 4), (65072, 0)]

theorem join_agree : agree joinL joinD 1114111 joinT = true := by decide +kernel
def joinR (r : Int) : Int := lookC joinL joinD (knownF r)

end Go.Proofs.Ytlklgngdagebfaa.Tb
