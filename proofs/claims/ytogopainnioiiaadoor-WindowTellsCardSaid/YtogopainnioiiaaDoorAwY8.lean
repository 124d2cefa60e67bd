/- A law's tree. -/
import Derived.Test.YtogopainnioiiaaDoorAwX
set_option maxRecDepth 100000
namespace Go.Proofs.Av
open Go
theorem f8 : ∀ (wild1606 wild1607 wild1608 wild1609 wild1610 wild1611 wild1612 wild1613 wild1614 wild1615 n1616 n1617 n1618 n1619 n1620 n1621 tick1622 slot1623 : Int),
 E cx (Key.fn 8)
 [AV.agg [vi wild1606, vi wild1607, vi wild1608, vi wild1609, vi wild1610, vi wild1611, vi wild1612, vi wild1613, vi wild1614, vu wild1615],
 AV.agg [vi n1616, vi n1617, vi n1618, vi n1619, vi n1620, vi n1621], vi tick1622, vi slot1623]
 [] =
 Option.bind (E cx (Key.fn 28) [] []) fun r1624 ↦
 Option.bind (ret1 r1624) fun v1625 ↦
 Option.bind (AV.bool? v1625) fun b1626 ↦
 bif b1626 then
 Option.bind (E cx (Key.fn 13) [AV.agg [vi n1616, vi n1617, vi n1618, vi n1619, vi n1620, vi n1621], vu 0] []) fun r1627 ↦
 Option.bind (ret1 r1627) fun v1628 ↦
 Option.bind (AV.cells? v1628) fun cs1629 ↦
 Option.bind (uncons? cs1629) fun p1630 ↦
 Option.bind (AV.int? IntKind.i64 p1630.fst) fun n1631 ↦
 Option.bind (uncons? p1630.snd) fun p1632 ↦
 Option.bind (AV.int? IntKind.i64 p1632.fst) fun n1633 ↦
 Option.bind (uncons? p1632.snd) fun p1634 ↦
 Option.bind (AV.int? IntKind.i64 p1634.fst) fun n1635 ↦
 Option.bind (uncons? p1634.snd) fun p1636 ↦
 Option.bind (AV.int? IntKind.i64 p1636.fst) fun n1637 ↦
 Option.bind (uncons? p1636.snd) fun p1638 ↦
 Option.bind (AV.int? IntKind.i64 p1638.fst) fun n1639 ↦
 Option.bind (uncons? p1638.snd) fun p1640 ↦
 Option.bind (AV.int? IntKind.i64 p1640.fst) fun n1641 ↦
 Option.bind (uncons? p1640.snd) fun p1642 ↦
 Option.bind (AV.int? IntKind.i64 p1642.fst) fun n1643 ↦
 Option.bind (uncons? p1642.snd) fun p1644 ↦
 Option.bind (AV.int? IntKind.i64 p1644.fst) fun n1645 ↦
 Option.bind (uncons? p1644.snd) fun p1646 ↦
 Option.bind (AV.int? IntKind.i64 p1646.fst) fun n1647 ↦
 Option.bind (uncons? p1646.snd) fun p1648 ↦
 Option.bind (AV.int? IntKind.u64 p1648.fst) fun n1649 ↦
 Option.bind (nil? p1648.snd) fun _ ↦
 Option.bind
 (E cx (Key.loop 8 [true, true, true, false, true, false])
 [vbool false, vi 0, vi tick1622, vi slot1623, vbool true, AV.ptr 2 0 0 0,
 AV.list 0 10
 [[vi wild1606, vi wild1607, vi wild1608, vi wild1609, vi wild1610, vi wild1611, vi wild1612,
 vi wild1613, vi wild1614, vu wild1615],
 [vi n1631, vi n1633, vi n1635, vi n1637, vi n1639, vi n1641, vi n1643, vi n1645, vi n1647,
 vu n1649]],
 vi 2]
 [Ob.mk OK.box 24 10 0
 [[vi wild1606, vi wild1607, vi wild1608, vi wild1609, vi wild1610, vi wild1611, vi wild1612,
 vi wild1613, vi wild1614, vu wild1615]],
 Ob.mk OK.box 25 6 0 [[vi n1616, vi n1617, vi n1618, vi n1619, vi n1620, vi n1621]],
 Ob.mk OK.box 24 10 0
 [[vi n1631, vi n1633, vi n1635, vi n1637, vi n1639, vi n1641, vi n1643, vi n1645, vi n1647,
 vu n1649]]])
 fun r1651 ↦
 Option.bind (asJump r1651) fun j1652 ↦
 bif JX.is j1652.fst (JX.exit 0) then
 Option.bind (uncons? j1652.snd.fst) fun p1653 ↦
 Option.bind (AV.bool? p1653.fst) fun _ ↦
 Option.bind (uncons? p1653.snd) fun p1655 ↦
 Option.bind (AV.int? IntKind.i64 p1655.fst) fun _ ↦
 Option.bind (nil? p1655.snd) fun _ ↦
 Option.bind (uncons? j1652.snd.snd) fun p1658 ↦
 Option.bind
 (obIs
 (Ob.mk OK.box 24 10 0
 [[vi wild1606, vi wild1607, vi wild1608, vi wild1609, vi wild1610,
 vi wild1611, vi wild1612, vi wild1613, vi wild1614, vu wild1615]])
 p1658.fst)
 fun _ ↦
 Option.bind (uncons? p1658.fst.es) fun p1660 ↦
 Option.bind (nil? p1660.snd) fun _ ↦
 Option.bind (uncons? p1660.fst) fun p1662 ↦
 Option.bind (AV.int? IntKind.i64 p1662.fst) fun _ ↦
 Option.bind (uncons? p1662.snd) fun p1664 ↦
 Option.bind (AV.int? IntKind.i64 p1664.fst) fun _ ↦
 Option.bind (uncons? p1664.snd) fun p1666 ↦
 Option.bind (AV.int? IntKind.i64 p1666.fst) fun _ ↦
 Option.bind (uncons? p1666.snd) fun p1668 ↦
 Option.bind (AV.int? IntKind.i64 p1668.fst) fun _ ↦
 Option.bind (uncons? p1668.snd) fun p1670 ↦
 Option.bind (AV.int? IntKind.i64 p1670.fst) fun _ ↦
 Option.bind (uncons? p1670.snd) fun p1672 ↦
 Option.bind (AV.int? IntKind.i64 p1672.fst)
 fun _ ↦
 Option.bind (uncons? p1672.snd) fun p1674 ↦
 Option.bind (AV.int? IntKind.i64 p1674.fst)
 fun _ ↦
 Option.bind (uncons? p1674.snd) fun p1676 ↦
 Option.bind (AV.int? IntKind.i64 p1676.fst)
 fun _ ↦
 Option.bind (uncons? p1676.snd) fun p1678 ↦
 Option.bind
 (AV.int? IntKind.i64 p1678.fst)
 fun _ ↦
 Option.bind (uncons? p1678.snd)
 fun p1680 ↦
 Option.bind
 (AV.int? IntKind.u64 p1680.fst)
 fun _ ↦
 Option.bind (nil? p1680.snd)
 fun _ ↦
 Option.bind (chk p1658.fst.ver 0)
 fun _ ↦
 Option.bind (uncons? p1658.snd)
 fun p1684 ↦
 Option.bind
 (obIs
 (Ob.mk OK.box 25 6 0
 [[vi n1616, vi n1617,
 vi n1618, vi n1619,
 vi n1620,
 vi n1621]])
 p1684.fst)
 fun _ ↦
 Option.bind
 (uncons? p1684.fst.es)
 fun p1686 ↦
 Option.bind
 (nil? p1686.snd)
 fun _ ↦
 Option.bind
 (uncons? p1686.fst)
 fun p1688 ↦
 Option.bind
 (AV.int?
 IntKind.i64
 p1688.fst)
 fun _ ↦
 Option.bind
 (uncons?
 p1688.snd)
 fun p1690 ↦
 Option.bind
 (AV.int?
 IntKind.i64
 p1690.fst)
 fun _ ↦
 Option.bind
 (uncons?
 p1690.snd)
 fun p1692 ↦
 Option.bind
 (AV.int?
 IntKind.i64
 p1692.fst)
 fun _ ↦
 Option.bind
 (uncons?
 p1692.snd)
 fun
 p1694 ↦
 Option.bind
 (AV.int?
 IntKind.i64
 p1694.fst)
 fun
 _ ↦
 Option.bind
 (uncons?
 p1694.snd)
 fun
 p1696 ↦
 Option.bind
 (AV.int?
 IntKind.i64
 p1696.fst)
 fun
 _ ↦
 Option.bind
 (uncons?
 p1696.snd)
 fun
 p1698 ↦
 Option.bind
 (AV.int?
 IntKind.i64
 p1698.fst)
 fun
 _ ↦
 Option.bind
 (nil?
 p1698.snd)
 fun
 _ ↦
 Option.bind
 (chk
 p1684.fst.ver
 0)
 fun
 _ ↦
 Option.bind
 (uncons?
 p1684.snd)
 fun
 p1702 ↦
 Option.bind
 (obIs
 (Ob.mk
 OK.box
 24
 10
 0
 [[vi
 n1631,
 vi
 n1633,
 vi
 n1635,
 vi
 n1637,
 vi
 n1639,
 vi
 n1641,
 vi
 n1643,
 vi
 n1645,
 vi
 n1647,
 vu
 n1649]])
 p1702.fst)
 fun
 _ ↦
 Option.bind
 (uncons?
 p1702.fst.es)
 fun
 p1704 ↦
 Option.bind
 (nil?
 p1704.snd)
 fun
 _ ↦
 Option.bind
 (uncons?
 p1704.fst)
 fun
 p1706 ↦
 Option.bind
 (AV.int?
 IntKind.i64
 p1706.fst)
 fun
 _ ↦
 Option.bind
 (uncons?
 p1706.snd)
 fun
 p1708 ↦
 Option.bind
 (AV.int?
 IntKind.i64
 p1708.fst)
 fun
 _ ↦
 Option.bind
 (uncons?
 p1708.snd)
 fun
 p1710 ↦
 Option.bind
 (AV.int?
 IntKind.i64
 p1710.fst)
 fun
 _ ↦
 Option.bind
 (uncons?
 p1710.snd)
 fun
 p1712 ↦
 Option.bind
 (AV.int?
 IntKind.i64
 p1712.fst)
 fun
 _ ↦
 Option.bind
 (uncons?
 p1712.snd)
 fun
 p1714 ↦
 Option.bind
 (AV.int?
 IntKind.i64
 p1714.fst)
 fun
 _ ↦
 Option.bind
 (uncons?
 p1714.snd)
 fun
 p1716 ↦
 Option.bind
 (AV.int?
 IntKind.i64
 p1716.fst)
 fun
 _ ↦
 Option.bind
 (uncons?
 p1716.snd)
 fun
 p1718 ↦
 Option.bind
 (AV.int?
 IntKind.i64
 p1718.fst)
 fun
 _ ↦
 Option.bind
 (uncons?
 p1718.snd)
 fun
 p1720 ↦
 Option.bind
 (AV.int?
 IntKind.i64
 p1720.fst)
 fun
 _ ↦
 Option.bind
 (uncons?
 p1720.snd)
 fun
 p1722 ↦
 Option.bind
 (AV.int?
 IntKind.i64
 p1722.fst)
 fun
 _ ↦
 Option.bind
 (uncons?
 p1722.snd)
 fun
 p1724 ↦
 Option.bind
 (AV.int?
 IntKind.u64
 p1724.fst)
 fun
 _ ↦
 Option.bind
 (nil?
 p1724.snd)
 fun
 _ ↦
 Option.bind
 (chk
 p1702.fst.ver
 0)
 fun
 _ ↦
 Option.bind
 (nil?
 p1702.snd)
 fun
 _ ↦
 some
 (Out.ret
 (vbool
 true),
 [])
 else
 bif JX.is j1652.fst JX.ret then
 Option.bind (uncons? j1652.snd.fst) fun p1729 ↦
 Option.bind (AV.bool? p1729.fst) fun b1730 ↦
 Option.bind (uncons? p1729.snd) fun p1731 ↦
 Option.bind (AV.int? IntKind.i64 p1731.fst) fun _ ↦
 Option.bind (nil? p1731.snd) fun _ ↦
 Option.bind (uncons? j1652.snd.snd) fun p1734 ↦
 Option.bind
 (obIs
 (Ob.mk OK.box 24 10 0
 [[vi wild1606, vi wild1607, vi wild1608, vi wild1609, vi wild1610,
 vi wild1611, vi wild1612, vi wild1613, vi wild1614, vu wild1615]])
 p1734.fst)
 fun _ ↦
 Option.bind (uncons? p1734.fst.es) fun p1736 ↦
 Option.bind (nil? p1736.snd) fun _ ↦
 Option.bind (uncons? p1736.fst) fun p1738 ↦
 Option.bind (AV.int? IntKind.i64 p1738.fst) fun _ ↦
 Option.bind (uncons? p1738.snd) fun p1740 ↦
 Option.bind (AV.int? IntKind.i64 p1740.fst) fun _ ↦
 Option.bind (uncons? p1740.snd) fun p1742 ↦
 Option.bind (AV.int? IntKind.i64 p1742.fst) fun _ ↦
 Option.bind (uncons? p1742.snd) fun p1744 ↦
 Option.bind (AV.int? IntKind.i64 p1744.fst) fun _ ↦
 Option.bind (uncons? p1744.snd) fun p1746 ↦
 Option.bind (AV.int? IntKind.i64 p1746.fst)
 fun _ ↦
 Option.bind (uncons? p1746.snd) fun p1748 ↦
 Option.bind (AV.int? IntKind.i64 p1748.fst)
 fun _ ↦
 Option.bind (uncons? p1748.snd) fun p1750 ↦
 Option.bind (AV.int? IntKind.i64 p1750.fst)
 fun _ ↦
 Option.bind (uncons? p1750.snd) fun p1752 ↦
 Option.bind
 (AV.int? IntKind.i64 p1752.fst)
 fun _ ↦
 Option.bind (uncons? p1752.snd)
 fun p1754 ↦
 Option.bind
 (AV.int? IntKind.i64 p1754.fst)
 fun _ ↦
 Option.bind (uncons? p1754.snd)
 fun p1756 ↦
 Option.bind
 (AV.int? IntKind.u64 p1756.fst)
 fun _ ↦
 Option.bind (nil? p1756.snd)
 fun _ ↦
 Option.bind
 (chk p1734.fst.ver 0)
 fun _ ↦
 Option.bind
 (uncons? p1734.snd)
 fun p1760 ↦
 Option.bind
 (obIs
 (Ob.mk OK.box 25 6 0
 [[vi n1616, vi n1617,
 vi n1618,
 vi n1619,
 vi n1620,
 vi n1621]])
 p1760.fst)
 fun _ ↦
 Option.bind
 (uncons? p1760.fst.es)
 fun p1762 ↦
 Option.bind
 (nil? p1762.snd)
 fun _ ↦
 Option.bind
 (uncons? p1762.fst)
 fun p1764 ↦
 Option.bind
 (AV.int?
 IntKind.i64
 p1764.fst)
 fun _ ↦
 Option.bind
 (uncons?
 p1764.snd)
 fun p1766 ↦
 Option.bind
 (AV.int?
 IntKind.i64
 p1766.fst)
 fun _ ↦
 Option.bind
 (uncons?
 p1766.snd)
 fun p1768 ↦
 Option.bind
 (AV.int?
 IntKind.i64
 p1768.fst)
 fun
 _ ↦
 Option.bind
 (uncons?
 p1768.snd)
 fun
 p1770 ↦
 Option.bind
 (AV.int?
 IntKind.i64
 p1770.fst)
 fun
 _ ↦
 Option.bind
 (uncons?
 p1770.snd)
 fun
 p1772 ↦
 Option.bind
 (AV.int?
 IntKind.i64
 p1772.fst)
 fun
 _ ↦
 Option.bind
 (uncons?
 p1772.snd)
 fun
 p1774 ↦
 Option.bind
 (AV.int?
 IntKind.i64
 p1774.fst)
 fun
 _ ↦
 Option.bind
 (nil?
 p1774.snd)
 fun
 _ ↦
 Option.bind
 (chk
 p1760.fst.ver
 0)
 fun
 _ ↦
 Option.bind
 (uncons?
 p1760.snd)
 fun
 p1778 ↦
 Option.bind
 (obIs
 (Ob.mk
 OK.box
 24
 10
 0
 [[vi
 n1631,
 vi
 n1633,
 vi
 n1635,
 vi
 n1637,
 vi
 n1639,
 vi
 n1641,
 vi
 n1643,
 vi
 n1645,
 vi
 n1647,
 vu
 n1649]])
 p1778.fst)
 fun
 _ ↦
 Option.bind
 (uncons?
 p1778.fst.es)
 fun
 p1780 ↦
 Option.bind
 (nil?
 p1780.snd)
 fun
 _ ↦
 Option.bind
 (uncons?
 p1780.fst)
 fun
 p1782 ↦
 Option.bind
 (AV.int?
 IntKind.i64
 p1782.fst)
 fun
 _ ↦
 Option.bind
 (uncons?
 p1782.snd)
 fun
 p1784 ↦
 Option.bind
 (AV.int?
 IntKind.i64
 p1784.fst)
 fun
 _ ↦
 Option.bind
 (uncons?
 p1784.snd)
 fun
 p1786 ↦
 Option.bind
 (AV.int?
 IntKind.i64
 p1786.fst)
 fun
 _ ↦
 Option.bind
 (uncons?
 p1786.snd)
 fun
 p1788 ↦
 Option.bind
 (AV.int?
 IntKind.i64
 p1788.fst)
 fun
 _ ↦
 Option.bind
 (uncons?
 p1788.snd)
 fun
 p1790 ↦
 Option.bind
 (AV.int?
 IntKind.i64
 p1790.fst)
 fun
 _ ↦
 Option.bind
 (uncons?
 p1790.snd)
 fun
 p1792 ↦
 Option.bind
 (AV.int?
 IntKind.i64
 p1792.fst)
 fun
 _ ↦
 Option.bind
 (uncons?
 p1792.snd)
 fun
 p1794 ↦
 Option.bind
 (AV.int?
 IntKind.i64
 p1794.fst)
 fun
 _ ↦
 Option.bind
 (uncons?
 p1794.snd)
 fun
 p1796 ↦
 Option.bind
 (AV.int?
 IntKind.i64
 p1796.fst)
 fun
 _ ↦
 Option.bind
 (uncons?
 p1796.snd)
 fun
 p1798 ↦
 Option.bind
 (AV.int?
 IntKind.i64
 p1798.fst)
 fun
 _ ↦
 Option.bind
 (uncons?
 p1798.snd)
 fun
 p1800 ↦
 Option.bind
 (AV.int?
 IntKind.u64
 p1800.fst)
 fun
 _ ↦
 Option.bind
 (nil?
 p1800.snd)
 fun
 _ ↦
 Option.bind
 (chk
 p1778.fst.ver
 0)
 fun
 _ ↦
 Option.bind
 (nil?
 p1778.snd)
 fun
 _ ↦
 some
 (Out.ret
 (vbool
 b1730),
 [])
 else none
 else
 Option.bind (E cx (Key.fn 13) [AV.agg [vi n1616, vi n1617, vi n1618, vi n1619, vi n1620, vi n1621], vu 0] []) fun r1805 ↦
 Option.bind (ret1 r1805) fun v1806 ↦
 Option.bind (AV.cells? v1806) fun cs1807 ↦
 Option.bind (uncons? cs1807) fun p1808 ↦
 Option.bind (AV.int? IntKind.i64 p1808.fst) fun n1809 ↦
 Option.bind (uncons? p1808.snd) fun p1810 ↦
 Option.bind (AV.int? IntKind.i64 p1810.fst) fun n1811 ↦
 Option.bind (uncons? p1810.snd) fun p1812 ↦
 Option.bind (AV.int? IntKind.i64 p1812.fst) fun n1813 ↦
 Option.bind (uncons? p1812.snd) fun p1814 ↦
 Option.bind (AV.int? IntKind.i64 p1814.fst) fun n1815 ↦
 Option.bind (uncons? p1814.snd) fun p1816 ↦
 Option.bind (AV.int? IntKind.i64 p1816.fst) fun n1817 ↦
 Option.bind (uncons? p1816.snd) fun p1818 ↦
 Option.bind (AV.int? IntKind.i64 p1818.fst) fun n1819 ↦
 Option.bind (uncons? p1818.snd) fun p1820 ↦
 Option.bind (AV.int? IntKind.i64 p1820.fst) fun n1821 ↦
 Option.bind (uncons? p1820.snd) fun p1822 ↦
 Option.bind (AV.int? IntKind.i64 p1822.fst) fun n1823 ↦
 Option.bind (uncons? p1822.snd) fun p1824 ↦
 Option.bind (AV.int? IntKind.i64 p1824.fst) fun n1825 ↦
 Option.bind (uncons? p1824.snd) fun p1826 ↦
 Option.bind (AV.int? IntKind.u64 p1826.fst) fun n1827 ↦
 Option.bind (nil? p1826.snd) fun _ ↦
 Option.bind
 (E cx (Key.loop 8 [true, true, true, false, true, false])
 [vbool false, vi 0, vi tick1622, vi slot1623, vbool false, AV.ptr 2 0 0 0,
 AV.list 0 10
 [[vi wild1606, vi wild1607, vi wild1608, vi wild1609, vi wild1610, vi wild1611, vi wild1612,
 vi wild1613, vi wild1614, vu wild1615],
 [vi n1809, vi n1811, vi n1813, vi n1815, vi n1817, vi n1819, vi n1821, vi n1823, vi n1825,
 vu n1827]],
 vi 2]
 [Ob.mk OK.box 24 10 0
 [[vi wild1606, vi wild1607, vi wild1608, vi wild1609, vi wild1610, vi wild1611, vi wild1612,
 vi wild1613, vi wild1614, vu wild1615]],
 Ob.mk OK.box 25 6 0 [[vi n1616, vi n1617, vi n1618, vi n1619, vi n1620, vi n1621]],
 Ob.mk OK.box 24 10 0
 [[vi n1809, vi n1811, vi n1813, vi n1815, vi n1817, vi n1819, vi n1821, vi n1823, vi n1825,
 vu n1827]]])
 fun r1829 ↦
 Option.bind (asJump r1829) fun j1830 ↦
 bif JX.is j1830.fst (JX.exit 0) then
 Option.bind (uncons? j1830.snd.fst) fun p1831 ↦
 Option.bind (AV.bool? p1831.fst) fun _ ↦
 Option.bind (uncons? p1831.snd) fun p1833 ↦
 Option.bind (AV.int? IntKind.i64 p1833.fst) fun _ ↦
 Option.bind (nil? p1833.snd) fun _ ↦
 Option.bind (uncons? j1830.snd.snd) fun p1836 ↦
 Option.bind
 (obIs
 (Ob.mk OK.box 24 10 0
 [[vi wild1606, vi wild1607, vi wild1608, vi wild1609, vi wild1610,
 vi wild1611, vi wild1612, vi wild1613, vi wild1614, vu wild1615]])
 p1836.fst)
 fun _ ↦
 Option.bind (uncons? p1836.fst.es) fun p1838 ↦
 Option.bind (nil? p1838.snd) fun _ ↦
 Option.bind (uncons? p1838.fst) fun p1840 ↦
 Option.bind (AV.int? IntKind.i64 p1840.fst) fun _ ↦
 Option.bind (uncons? p1840.snd) fun p1842 ↦
 Option.bind (AV.int? IntKind.i64 p1842.fst) fun _ ↦
 Option.bind (uncons? p1842.snd) fun p1844 ↦
 Option.bind (AV.int? IntKind.i64 p1844.fst) fun _ ↦
 Option.bind (uncons? p1844.snd) fun p1846 ↦
 Option.bind (AV.int? IntKind.i64 p1846.fst) fun _ ↦
 Option.bind (uncons? p1846.snd) fun p1848 ↦
 Option.bind (AV.int? IntKind.i64 p1848.fst) fun _ ↦
 Option.bind (uncons? p1848.snd) fun p1850 ↦
 Option.bind (AV.int? IntKind.i64 p1850.fst)
 fun _ ↦
 Option.bind (uncons? p1850.snd) fun p1852 ↦
 Option.bind (AV.int? IntKind.i64 p1852.fst)
 fun _ ↦
 Option.bind (uncons? p1852.snd) fun p1854 ↦
 Option.bind (AV.int? IntKind.i64 p1854.fst)
 fun _ ↦
 Option.bind (uncons? p1854.snd) fun p1856 ↦
 Option.bind
 (AV.int? IntKind.i64 p1856.fst)
 fun _ ↦
 Option.bind (uncons? p1856.snd)
 fun p1858 ↦
 Option.bind
 (AV.int? IntKind.u64 p1858.fst)
 fun _ ↦
 Option.bind (nil? p1858.snd)
 fun _ ↦
 Option.bind (chk p1836.fst.ver 0)
 fun _ ↦
 Option.bind (uncons? p1836.snd)
 fun p1862 ↦
 Option.bind
 (obIs
 (Ob.mk OK.box 25 6 0
 [[vi n1616, vi n1617,
 vi n1618, vi n1619,
 vi n1620,
 vi n1621]])
 p1862.fst)
 fun _ ↦
 Option.bind
 (uncons? p1862.fst.es)
 fun p1864 ↦
 Option.bind
 (nil? p1864.snd)
 fun _ ↦
 Option.bind
 (uncons? p1864.fst)
 fun p1866 ↦
 Option.bind
 (AV.int?
 IntKind.i64
 p1866.fst)
 fun _ ↦
 Option.bind
 (uncons?
 p1866.snd)
 fun p1868 ↦
 Option.bind
 (AV.int?
 IntKind.i64
 p1868.fst)
 fun _ ↦
 Option.bind
 (uncons?
 p1868.snd)
 fun p1870 ↦
 Option.bind
 (AV.int?
 IntKind.i64
 p1870.fst)
 fun _ ↦
 Option.bind
 (uncons?
 p1870.snd)
 fun
 p1872 ↦
 Option.bind
 (AV.int?
 IntKind.i64
 p1872.fst)
 fun
 _ ↦
 Option.bind
 (uncons?
 p1872.snd)
 fun
 p1874 ↦
 Option.bind
 (AV.int?
 IntKind.i64
 p1874.fst)
 fun
 _ ↦
 Option.bind
 (uncons?
 p1874.snd)
 fun
 p1876 ↦
 Option.bind
 (AV.int?
 IntKind.i64
 p1876.fst)
 fun
 _ ↦
 Option.bind
 (nil?
 p1876.snd)
 fun
 _ ↦
 Option.bind
 (chk
 p1862.fst.ver
 0)
 fun
 _ ↦
 Option.bind
 (uncons?
 p1862.snd)
 fun
 p1880 ↦
 Option.bind
 (obIs
 (Ob.mk
 OK.box
 24
 10
 0
 [[vi
 n1809,
 vi
 n1811,
 vi
 n1813,
 vi
 n1815,
 vi
 n1817,
 vi
 n1819,
 vi
 n1821,
 vi
 n1823,
 vi
 n1825,
 vu
 n1827]])
 p1880.fst)
 fun
 _ ↦
 Option.bind
 (uncons?
 p1880.fst.es)
 fun
 p1882 ↦
 Option.bind
 (nil?
 p1882.snd)
 fun
 _ ↦
 Option.bind
 (uncons?
 p1882.fst)
 fun
 p1884 ↦
 Option.bind
 (AV.int?
 IntKind.i64
 p1884.fst)
 fun
 _ ↦
 Option.bind
 (uncons?
 p1884.snd)
 fun
 p1886 ↦
 Option.bind
 (AV.int?
 IntKind.i64
 p1886.fst)
 fun
 _ ↦
 Option.bind
 (uncons?
 p1886.snd)
 fun
 p1888 ↦
 Option.bind
 (AV.int?
 IntKind.i64
 p1888.fst)
 fun
 _ ↦
 Option.bind
 (uncons?
 p1888.snd)
 fun
 p1890 ↦
 Option.bind
 (AV.int?
 IntKind.i64
 p1890.fst)
 fun
 _ ↦
 Option.bind
 (uncons?
 p1890.snd)
 fun
 p1892 ↦
 Option.bind
 (AV.int?
 IntKind.i64
 p1892.fst)
 fun
 _ ↦
 Option.bind
 (uncons?
 p1892.snd)
 fun
 p1894 ↦
 Option.bind
 (AV.int?
 IntKind.i64
 p1894.fst)
 fun
 _ ↦
 Option.bind
 (uncons?
 p1894.snd)
 fun
 p1896 ↦
 Option.bind
 (AV.int?
 IntKind.i64
 p1896.fst)
 fun
 _ ↦
 Option.bind
 (uncons?
 p1896.snd)
 fun
 p1898 ↦
 Option.bind
 (AV.int?
 IntKind.i64
 p1898.fst)
 fun
 _ ↦
 Option.bind
 (uncons?
 p1898.snd)
 fun
 p1900 ↦
 Option.bind
 (AV.int?
 IntKind.i64
 p1900.fst)
 fun
 _ ↦
 Option.bind
 (uncons?
 p1900.snd)
 fun
 p1902 ↦
 Option.bind
 (AV.int?
 IntKind.u64
 p1902.fst)
 fun
 _ ↦
 Option.bind
 (nil?
 p1902.snd)
 fun
 _ ↦
 Option.bind
 (chk
 p1880.fst.ver
 0)
 fun
 _ ↦
 Option.bind
 (nil?
 p1880.snd)
 fun
 _ ↦
 some
 (Out.ret
 (vbool
 false),
 [])
 else
 bif JX.is j1830.fst JX.ret then
 Option.bind (uncons? j1830.snd.fst) fun p1907 ↦
 Option.bind (AV.bool? p1907.fst) fun b1908 ↦
 Option.bind (uncons? p1907.snd) fun p1909 ↦
 Option.bind (AV.int? IntKind.i64 p1909.fst) fun _ ↦
 Option.bind (nil? p1909.snd) fun _ ↦
 Option.bind (uncons? j1830.snd.snd) fun p1912 ↦
 Option.bind
 (obIs
 (Ob.mk OK.box 24 10 0
 [[vi wild1606, vi wild1607, vi wild1608, vi wild1609, vi wild1610,
 vi wild1611, vi wild1612, vi wild1613, vi wild1614, vu wild1615]])
 p1912.fst)
 fun _ ↦
 Option.bind (uncons? p1912.fst.es) fun p1914 ↦
 Option.bind (nil? p1914.snd) fun _ ↦
 Option.bind (uncons? p1914.fst) fun p1916 ↦
 Option.bind (AV.int? IntKind.i64 p1916.fst) fun _ ↦
 Option.bind (uncons? p1916.snd) fun p1918 ↦
 Option.bind (AV.int? IntKind.i64 p1918.fst) fun _ ↦
 Option.bind (uncons? p1918.snd) fun p1920 ↦
 Option.bind (AV.int? IntKind.i64 p1920.fst) fun _ ↦
 Option.bind (uncons? p1920.snd) fun p1922 ↦
 Option.bind (AV.int? IntKind.i64 p1922.fst) fun _ ↦
 Option.bind (uncons? p1922.snd) fun p1924 ↦
 Option.bind (AV.int? IntKind.i64 p1924.fst)
 fun _ ↦
 Option.bind (uncons? p1924.snd) fun p1926 ↦
 Option.bind (AV.int? IntKind.i64 p1926.fst)
 fun _ ↦
 Option.bind (uncons? p1926.snd) fun p1928 ↦
 Option.bind (AV.int? IntKind.i64 p1928.fst)
 fun _ ↦
 Option.bind (uncons? p1928.snd) fun p1930 ↦
 Option.bind
 (AV.int? IntKind.i64 p1930.fst)
 fun _ ↦
 Option.bind (uncons? p1930.snd)
 fun p1932 ↦
 Option.bind
 (AV.int? IntKind.i64 p1932.fst)
 fun _ ↦
 Option.bind (uncons? p1932.snd)
 fun p1934 ↦
 Option.bind
 (AV.int? IntKind.u64 p1934.fst)
 fun _ ↦
 Option.bind (nil? p1934.snd)
 fun _ ↦
 Option.bind
 (chk p1912.fst.ver 0)
 fun _ ↦
 Option.bind
 (uncons? p1912.snd)
 fun p1938 ↦
 Option.bind
 (obIs
 (Ob.mk OK.box 25 6 0
 [[vi n1616, vi n1617,
 vi n1618,
 vi n1619,
 vi n1620,
 vi n1621]])
 p1938.fst)
 fun _ ↦
 Option.bind
 (uncons? p1938.fst.es)
 fun p1940 ↦
 Option.bind
 (nil? p1940.snd)
 fun _ ↦
 Option.bind
 (uncons? p1940.fst)
 fun p1942 ↦
 Option.bind
 (AV.int?
 IntKind.i64
 p1942.fst)
 fun _ ↦
 Option.bind
 (uncons?
 p1942.snd)
 fun p1944 ↦
 Option.bind
 (AV.int?
 IntKind.i64
 p1944.fst)
 fun _ ↦
 Option.bind
 (uncons?
 p1944.snd)
 fun p1946 ↦
 Option.bind
 (AV.int?
 IntKind.i64
 p1946.fst)
 fun
 _ ↦
 Option.bind
 (uncons?
 p1946.snd)
 fun
 p1948 ↦
 Option.bind
 (AV.int?
 IntKind.i64
 p1948.fst)
 fun
 _ ↦
 Option.bind
 (uncons?
 p1948.snd)
 fun
 p1950 ↦
 Option.bind
 (AV.int?
 IntKind.i64
 p1950.fst)
 fun
 _ ↦
 Option.bind
 (uncons?
 p1950.snd)
 fun
 p1952 ↦
 Option.bind
 (AV.int?
 IntKind.i64
 p1952.fst)
 fun
 _ ↦
 Option.bind
 (nil?
 p1952.snd)
 fun
 _ ↦
 Option.bind
 (chk
 p1938.fst.ver
 0)
 fun
 _ ↦
 Option.bind
 (uncons?
 p1938.snd)
 fun
 p1956 ↦
 Option.bind
 (obIs
 (Ob.mk
 OK.box
 24
 10
 0
 [[vi
 n1809,
 vi
 n1811,
 vi
 n1813,
 vi
 n1815,
 vi
 n1817,
 vi
 n1819,
 vi
 n1821,
 vi
 n1823,
 vi
 n1825,
 vu
 n1827]])
 p1956.fst)
 fun
 _ ↦
 Option.bind
 (uncons?
 p1956.fst.es)
 fun
 p1958 ↦
 Option.bind
 (nil?
 p1958.snd)
 fun
 _ ↦
 Option.bind
 (uncons?
 p1958.fst)
 fun
 p1960 ↦
 Option.bind
 (AV.int?
 IntKind.i64
 p1960.fst)
 fun
 _ ↦
 Option.bind
 (uncons?
 p1960.snd)
 fun
 p1962 ↦
 Option.bind
 (AV.int?
 IntKind.i64
 p1962.fst)
 fun
 _ ↦
 Option.bind
 (uncons?
 p1962.snd)
 fun
 p1964 ↦
 Option.bind
 (AV.int?
 IntKind.i64
 p1964.fst)
 fun
 _ ↦
 Option.bind
 (uncons?
 p1964.snd)
 fun
 p1966 ↦
 Option.bind
 (AV.int?
 IntKind.i64
 p1966.fst)
 fun
 _ ↦
 Option.bind
 (uncons?
 p1966.snd)
 fun
 p1968 ↦
 Option.bind
 (AV.int?
 IntKind.i64
 p1968.fst)
 fun
 _ ↦
 Option.bind
 (uncons?
 p1968.snd)
 fun
 p1970 ↦
 Option.bind
 (AV.int?
 IntKind.i64
 p1970.fst)
 fun
 _ ↦
 Option.bind
 (uncons?
 p1970.snd)
 fun
 p1972 ↦
 Option.bind
 (AV.int?
 IntKind.i64
 p1972.fst)
 fun
 _ ↦
 Option.bind
 (uncons?
 p1972.snd)
 fun
 p1974 ↦
 Option.bind
 (AV.int?
 IntKind.i64
 p1974.fst)
 fun
 _ ↦
 Option.bind
 (uncons?
 p1974.snd)
 fun
 p1976 ↦
 Option.bind
 (AV.int?
 IntKind.i64
 p1976.fst)
 fun
 _ ↦
 Option.bind
 (uncons?
 p1976.snd)
 fun
 p1978 ↦
 Option.bind
 (AV.int?
 IntKind.u64
 p1978.fst)
 fun
 _ ↦
 Option.bind
 (nil?
 p1978.snd)
 fun
 _ ↦
 Option.bind
 (chk
 p1956.fst.ver
 0)
 fun
 _ ↦
 Option.bind
 (nil?
 p1956.snd)
 fun
 _ ↦
 some
 (Out.ret
 (vbool
 b1908),
 [])
 else none := by
  intros
  exact (E_fast _ _ _ _).trans (by kernel_rfl)

theorem f8_l0 : ∀ (b1983 : Bool) (x1984 x1985 x1986 : Int) (b1987 : Bool) (l1988 : List (List AV))
 (x1989 x1990 x1991 x1992 x1993 x1994 x1995 x1996 x1997 x1998 x1999 x2000 x2001 x2002 x2003 x2004 x2005 x2006 x2007 x2008 x2009 x2010 x2011 x2012 x2013 x2014
 x2015 : Int),
 E cx (Key.loop 8 [true, true, true, false, true, false])
 [vbool b1983, vi x1984, vi x1985, vi x1986, vbool b1987, AV.ptr 2 0 0 0, AV.list 0 10 l1988, vi x1989]
 [Ob.mk OK.box 24 10 0 [[vi x1990, vi x1991, vi x1992, vi x1993, vi x1994, vi x1995, vi x1996, vi x1997, vi x1998, vu x1999]],
 Ob.mk OK.box 25 6 0 [[vi x2000, vi x2001, vi x2002, vi x2003, vi x2004, vi x2005]],
 Ob.mk OK.box 24 10 0 [[vi x2006, vi x2007, vi x2008, vi x2009, vi x2010, vi x2011, vi x2012, vi x2013, vi x2014, vu x2015]]] =
 bif decide (x1984 < x1989) then
 if 0 ≤ x1984 then
 Option.bind l1988[Int.toNat x1984]? fun cs2016 ↦
 Option.bind (uncons? cs2016) fun p2017 ↦
 Option.bind (AV.int? IntKind.i64 p2017.fst) fun n2018 ↦
 Option.bind (uncons? p2017.snd) fun p2019 ↦
 Option.bind (AV.int? IntKind.i64 p2019.fst) fun n2020 ↦
 Option.bind (uncons? p2019.snd) fun p2021 ↦
 Option.bind (AV.int? IntKind.i64 p2021.fst) fun n2022 ↦
 Option.bind (uncons? p2021.snd) fun p2023 ↦
 Option.bind (AV.int? IntKind.i64 p2023.fst) fun n2024 ↦
 Option.bind (uncons? p2023.snd) fun p2025 ↦
 Option.bind (AV.int? IntKind.i64 p2025.fst) fun n2026 ↦
 Option.bind (uncons? p2025.snd) fun p2027 ↦
 Option.bind (AV.int? IntKind.i64 p2027.fst) fun n2028 ↦
 Option.bind (uncons? p2027.snd) fun p2029 ↦
 Option.bind (AV.int? IntKind.i64 p2029.fst) fun n2030 ↦
 Option.bind (uncons? p2029.snd) fun p2031 ↦
 Option.bind (AV.int? IntKind.i64 p2031.fst) fun n2032 ↦
 Option.bind (uncons? p2031.snd) fun p2033 ↦
 Option.bind (AV.int? IntKind.i64 p2033.fst) fun n2034 ↦
 Option.bind (uncons? p2033.snd) fun p2035 ↦
 Option.bind (AV.int? IntKind.u64 p2035.fst) fun n2036 ↦
 Option.bind (nil? p2035.snd) fun _ ↦
 Option.bind (E cx (Key.fn 29) [vi x1985, vi 200] []) fun r2038 ↦
 Option.bind (ret1 r2038) fun v2039 ↦
 Option.bind (AV.int? IntKind.i64 v2039) fun n2040 ↦
 Option.bind (E cx (Key.fn 29) [vi x1986, vi 30] []) fun r2041 ↦
 Option.bind (ret1 r2041) fun v2042 ↦
 Option.bind (AV.int? IntKind.i64 v2042) fun n2043 ↦
 Option.bind (E cx (Key.fn 29) [vi x1985, vi 1099511627777] []) fun r2044 ↦
 Option.bind (ret1 r2044) fun v2045 ↦
 Option.bind (AV.int? IntKind.i64 v2045) fun n2046 ↦
 Option.bind (E cx (Key.fn 29) [vi x1985, vi 1099511627777] []) fun r2047 ↦
 Option.bind (ret1 r2047) fun v2048 ↦
 Option.bind (AV.int? IntKind.i64 v2048) fun n2049 ↦
 if x2010 = 0 then none
 else
 Option.bind (E cx (Key.fn 29) [vi x1986, vi 20] []) fun r2050 ↦
 Option.bind (ret1 r2050) fun v2051 ↦
 Option.bind (AV.int? IntKind.i64 v2051) fun n2052 ↦
 Option.bind (E cx (Key.fn 29) [vi x1985, vi 200] [])
 fun r2053 ↦
 Option.bind (ret1 r2053) fun v2054 ↦
 Option.bind (AV.int? IntKind.i64 v2054) fun n2055 ↦
 if x2010 = 0 then none
 else
 Option.bind (E cx (Key.fn 29) [vi x1986, vi 12] [])
 fun r2056 ↦
 Option.bind (ret1 r2056) fun v2057 ↦
 Option.bind (AV.int? IntKind.i64 v2057) fun n2058 ↦
 Option.bind
 (E cx
 (Key.loop 8
 [true, true, true, false, true, false, false, true,
 true, false, false, true, true, false])
 [vbool b1983, vi 0, vi x1985, vi x1986, vbool b1987,
 AV.ptr 2 0 0 0, AV.ptr 3 0 0 0, AV.list 0 10 l1988,
 vi x1989, vi x1984,
 AV.list 0 2
 [[vi x1985, vi x1986], [vi n2040, vi n2043],
 [vi n2046,
 vi
 (IntKind.wrap IntKind.i64
 (Int.sub
 (IntKind.wrap IntKind.i64
 (Int.add
 (IntKind.wrap IntKind.i64
 (Int.tdiv n2049 x2010))
 n2052))
 12))],
 [vi
 (IntKind.wrap IntKind.i64
 (Int.sub 1099511627776 n2055)),
 vi
 (IntKind.wrap IntKind.i64
 (Int.add
 (IntKind.wrap IntKind.i64
 (Int.sub
 (IntKind.wrap IntKind.i64
 (Int.tdiv 1099511627776 x2010))
 n2058))
 4))]],
 vi 4]
 [Ob.mk OK.box 24 10 0
 [[vi x1990, vi x1991, vi x1992, vi x1993, vi x1994,
 vi x1995, vi x1996, vi x1997, vi x1998,
 vu x1999]],
 Ob.mk OK.box 25 6 0
 [[vi x2000, vi x2001, vi x2002, vi x2003, vi x2004,
 vi x2005]],
 Ob.mk OK.box 24 10 0
 [[vi x2006, vi x2007, vi x2008, vi x2009, vi x2010,
 vi x2011, vi x2012, vi x2013, vi x2014,
 vu x2015]],
 Ob.mk OK.box 24 10 0
 [[vi n2018, vi n2020, vi n2022, vi n2024, vi n2026,
 vi n2028, vi n2030, vi n2032, vi n2034,
 vu n2036]]])
 fun r2059 ↦
 Option.bind (asJump r2059) fun j2060 ↦
 bif JX.is j2060.fst (JX.exit 2) then
 Option.bind (uncons? j2060.snd.fst) fun p2061 ↦
 Option.bind (AV.bool? p2061.fst) fun b2062 ↦
 Option.bind (uncons? p2061.snd) fun p2063 ↦
 Option.bind (AV.int? IntKind.i64 p2063.fst)
 fun _ ↦
 Option.bind (nil? p2063.snd) fun _ ↦
 Option.bind (uncons? j2060.snd.snd)
 fun p2066 ↦
 Option.bind
 (obIs
 (Ob.mk OK.box 24 10 0
 [[vi x1990, vi x1991, vi x1992,
 vi x1993, vi x1994, vi x1995,
 vi x1996, vi x1997, vi x1998,
 vu x1999]])
 p2066.fst)
 fun _ ↦
 Option.bind (uncons? p2066.fst.es)
 fun p2068 ↦
 Option.bind (nil? p2068.snd) fun _ ↦
 Option.bind (uncons? p2068.fst)
 fun p2070 ↦
 Option.bind
 (AV.int? IntKind.i64 p2070.fst)
 fun n2071 ↦
 Option.bind (uncons? p2070.snd)
 fun p2072 ↦
 Option.bind
 (AV.int? IntKind.i64
 p2072.fst)
 fun n2073 ↦
 Option.bind
 (uncons? p2072.snd)
 fun p2074 ↦
 Option.bind
 (AV.int? IntKind.i64
 p2074.fst)
 fun n2075 ↦
 Option.bind
 (uncons? p2074.snd)
 fun p2076 ↦
 Option.bind
 (AV.int?
 IntKind.i64
 p2076.fst)
 fun n2077 ↦
 Option.bind
 (uncons? p2076.snd)
 fun p2078 ↦
 Option.bind
 (AV.int?
 IntKind.i64
 p2078.fst)
 fun n2079 ↦
 Option.bind
 (uncons?
 p2078.snd)
 fun p2080 ↦
 Option.bind
 (AV.int?
 IntKind.i64
 p2080.fst)
 fun n2081 ↦
 Option.bind
 (uncons?
 p2080.snd)
 fun p2082 ↦
 Option.bind
 (AV.int?
 IntKind.i64
 p2082.fst)
 fun
 n2083 ↦
 Option.bind
 (uncons?
 p2082.snd)
 fun
 p2084 ↦
 Option.bind
 (AV.int?
 IntKind.i64
 p2084.fst)
 fun
 n2085 ↦
 Option.bind
 (uncons?
 p2084.snd)
 fun
 p2086 ↦
 Option.bind
 (AV.int?
 IntKind.i64
 p2086.fst)
 fun
 n2087 ↦
 Option.bind
 (uncons?
 p2086.snd)
 fun
 p2088 ↦
 Option.bind
 (AV.int?
 IntKind.u64
 p2088.fst)
 fun
 n2089 ↦
 Option.bind
 (nil?
 p2088.snd)
 fun
 _ ↦
 Option.bind
 (chk
 p2066.fst.ver
 0)
 fun
 _ ↦
 Option.bind
 (uncons?
 p2066.snd)
 fun
 p2092 ↦
 Option.bind
 (obIs
 (Ob.mk
 OK.box
 25
 6
 0
 [[vi
 x2000,
 vi
 x2001,
 vi
 x2002,
 vi
 x2003,
 vi
 x2004,
 vi
 x2005]])
 p2092.fst)
 fun
 _ ↦
 Option.bind
 (uncons?
 p2092.fst.es)
 fun
 p2094 ↦
 Option.bind
 (nil?
 p2094.snd)
 fun
 _ ↦
 Option.bind
 (uncons?
 p2094.fst)
 fun
 p2096 ↦
 Option.bind
 (AV.int?
 IntKind.i64
 p2096.fst)
 fun
 n2097 ↦
 Option.bind
 (uncons?
 p2096.snd)
 fun
 p2098 ↦
 Option.bind
 (AV.int?
 IntKind.i64
 p2098.fst)
 fun
 n2099 ↦
 Option.bind
 (uncons?
 p2098.snd)
 fun
 p2100 ↦
 Option.bind
 (AV.int?
 IntKind.i64
 p2100.fst)
 fun
 n2101 ↦
 Option.bind
 (uncons?
 p2100.snd)
 fun
 p2102 ↦
 Option.bind
 (AV.int?
 IntKind.i64
 p2102.fst)
 fun
 n2103 ↦
 Option.bind
 (uncons?
 p2102.snd)
 fun
 p2104 ↦
 Option.bind
 (AV.int?
 IntKind.i64
 p2104.fst)
 fun
 n2105 ↦
 Option.bind
 (uncons?
 p2104.snd)
 fun
 p2106 ↦
 Option.bind
 (AV.int?
 IntKind.i64
 p2106.fst)
 fun
 n2107 ↦
 Option.bind
 (nil?
 p2106.snd)
 fun
 _ ↦
 Option.bind
 (chk
 p2092.fst.ver
 0)
 fun
 _ ↦
 Option.bind
 (uncons?
 p2092.snd)
 fun
 p2110 ↦
 Option.bind
 (obIs
 (Ob.mk
 OK.box
 24
 10
 0
 [[vi
 x2006,
 vi
 x2007,
 vi
 x2008,
 vi
 x2009,
 vi
 x2010,
 vi
 x2011,
 vi
 x2012,
 vi
 x2013,
 vi
 x2014,
 vu
 x2015]])
 p2110.fst)
 fun
 _ ↦
 Option.bind
 (uncons?
 p2110.fst.es)
 fun
 p2112 ↦
 Option.bind
 (nil?
 p2112.snd)
 fun
 _ ↦
 Option.bind
 (uncons?
 p2112.fst)
 fun
 p2114 ↦
 Option.bind
 (AV.int?
 IntKind.i64
 p2114.fst)
 fun
 n2115 ↦
 Option.bind
 (uncons?
 p2114.snd)
 fun
 p2116 ↦
 Option.bind
 (AV.int?
 IntKind.i64
 p2116.fst)
 fun
 n2117 ↦
 Option.bind
 (uncons?
 p2116.snd)
 fun
 p2118 ↦
 Option.bind
 (AV.int?
 IntKind.i64
 p2118.fst)
 fun
 n2119 ↦
 Option.bind
 (uncons?
 p2118.snd)
 fun
 p2120 ↦
 Option.bind
 (AV.int?
 IntKind.i64
 p2120.fst)
 fun
 n2121 ↦
 Option.bind
 (uncons?
 p2120.snd)
 fun
 p2122 ↦
 Option.bind
 (AV.int?
 IntKind.i64
 p2122.fst)
 fun
 n2123 ↦
 Option.bind
 (uncons?
 p2122.snd)
 fun
 p2124 ↦
 Option.bind
 (AV.int?
 IntKind.i64
 p2124.fst)
 fun
 n2125 ↦
 Option.bind
 (uncons?
 p2124.snd)
 fun
 p2126 ↦
 Option.bind
 (AV.int?
 IntKind.i64
 p2126.fst)
 fun
 n2127 ↦
 Option.bind
 (uncons?
 p2126.snd)
 fun
 p2128 ↦
 Option.bind
 (AV.int?
 IntKind.i64
 p2128.fst)
 fun
 n2129 ↦
 Option.bind
 (uncons?
 p2128.snd)
 fun
 p2130 ↦
 Option.bind
 (AV.int?
 IntKind.i64
 p2130.fst)
 fun
 n2131 ↦
 Option.bind
 (uncons?
 p2130.snd)
 fun
 p2132 ↦
 Option.bind
 (AV.int?
 IntKind.u64
 p2132.fst)
 fun
 n2133 ↦
 Option.bind
 (nil?
 p2132.snd)
 fun
 _ ↦
 Option.bind
 (chk
 p2110.fst.ver
 0)
 fun
 _ ↦
 Option.bind
 (uncons?
 p2110.snd)
 fun
 p2136 ↦
 Option.bind
 (obIs
 (Ob.mk
 OK.box
 24
 10
 0
 [[vi
 n2018,
 vi
 n2020,
 vi
 n2022,
 vi
 n2024,
 vi
 n2026,
 vi
 n2028,
 vi
 n2030,
 vi
 n2032,
 vi
 n2034,
 vu
 n2036]])
 p2136.fst)
 fun
 _ ↦
 Option.bind
 (uncons?
 p2136.fst.es)
 fun
 p2138 ↦
 Option.bind
 (nil?
 p2138.snd)
 fun
 _ ↦
 Option.bind
 (uncons?
 p2138.fst)
 fun
 p2140 ↦
 Option.bind
 (AV.int?
 IntKind.i64
 p2140.fst)
 fun
 _ ↦
 Option.bind
 (uncons?
 p2140.snd)
 fun
 p2142 ↦
 Option.bind
 (AV.int?
 IntKind.i64
 p2142.fst)
 fun
 _ ↦
 Option.bind
 (uncons?
 p2142.snd)
 fun
 p2144 ↦
 Option.bind
 (AV.int?
 IntKind.i64
 p2144.fst)
 fun
 _ ↦
 Option.bind
 (uncons?
 p2144.snd)
 fun
 p2146 ↦
 Option.bind
 (AV.int?
 IntKind.i64
 p2146.fst)
 fun
 _ ↦
 Option.bind
 (uncons?
 p2146.snd)
 fun
 p2148 ↦
 Option.bind
 (AV.int?
 IntKind.i64
 p2148.fst)
 fun
 _ ↦
 Option.bind
 (uncons?
 p2148.snd)
 fun
 p2150 ↦
 Option.bind
 (AV.int?
 IntKind.i64
 p2150.fst)
 fun
 _ ↦
 Option.bind
 (uncons?
 p2150.snd)
 fun
 p2152 ↦
 Option.bind
 (AV.int?
 IntKind.i64
 p2152.fst)
 fun
 _ ↦
 Option.bind
 (uncons?
 p2152.snd)
 fun
 p2154 ↦
 Option.bind
 (AV.int?
 IntKind.i64
 p2154.fst)
 fun
 _ ↦
 Option.bind
 (uncons?
 p2154.snd)
 fun
 p2156 ↦
 Option.bind
 (AV.int?
 IntKind.i64
 p2156.fst)
 fun
 _ ↦
 Option.bind
 (uncons?
 p2156.snd)
 fun
 p2158 ↦
 Option.bind
 (AV.int?
 IntKind.u64
 p2158.fst)
 fun
 _ ↦
 Option.bind
 (nil?
 p2158.snd)
 fun
 _ ↦
 Option.bind
 (chk
 p2136.fst.ver
 0)
 fun
 _ ↦
 Option.bind
 (nil?
 p2136.snd)
 fun
 _ ↦
 Go.Proofs.Av.E
 cx
 (Key.loop
 8
 [true,
 true,
 true,
 false,
 true,
 false])
 [vbool
 b2062,
 vi
 (IntKind.wrap
 IntKind.i64
 (Int.add
 x1984
 1)),
 vi
 x1985,
 vi
 x1986,
 vbool
 b1987,
 AV.ptr
 2
 0
 0
 0,
 AV.list
 0
 10
 l1988,
 vi
 x1989]
 [Ob.mk
 OK.box
 24
 10
 0
 [[vi
 n2071,
 vi
 n2073,
 vi
 n2075,
 vi
 n2077,
 vi
 n2079,
 vi
 n2081,
 vi
 n2083,
 vi
 n2085,
 vi
 n2087,
 vu
 n2089]],
 Ob.mk
 OK.box
 25
 6
 0
 [[vi
 n2097,
 vi
 n2099,
 vi
 n2101,
 vi
 n2103,
 vi
 n2105,
 vi
 n2107]],
 Ob.mk
 OK.box
 24
 10
 0
 [[vi
 n2115,
 vi
 n2117,
 vi
 n2119,
 vi
 n2121,
 vi
 n2123,
 vi
 n2125,
 vi
 n2127,
 vi
 n2129,
 vi
 n2131,
 vu
 n2133]]]
 else
 bif JX.is j2060.fst JX.ret then
 Option.bind (uncons? j2060.snd.fst) fun p2163 ↦
 Option.bind (AV.bool? p2163.fst) fun b2164 ↦
 Option.bind (uncons? p2163.snd) fun p2165 ↦
 Option.bind (AV.int? IntKind.i64 p2165.fst)
 fun _ ↦
 Option.bind (nil? p2165.snd) fun _ ↦
 Option.bind (uncons? j2060.snd.snd)
 fun p2168 ↦
 Option.bind
 (obIs
 (Ob.mk OK.box 24 10 0
 [[vi x1990, vi x1991, vi x1992,
 vi x1993, vi x1994, vi x1995,
 vi x1996, vi x1997, vi x1998,
 vu x1999]])
 p2168.fst)
 fun _ ↦
 Option.bind (uncons? p2168.fst.es)
 fun p2170 ↦
 Option.bind (nil? p2170.snd)
 fun _ ↦
 Option.bind (uncons? p2170.fst)
 fun p2172 ↦
 Option.bind
 (AV.int? IntKind.i64
 p2172.fst)
 fun n2173 ↦
 Option.bind (uncons? p2172.snd)
 fun p2174 ↦
 Option.bind
 (AV.int? IntKind.i64
 p2174.fst)
 fun n2175 ↦
 Option.bind
 (uncons? p2174.snd)
 fun p2176 ↦
 Option.bind
 (AV.int? IntKind.i64
 p2176.fst)
 fun n2177 ↦
 Option.bind
 (uncons? p2176.snd)
 fun p2178 ↦
 Option.bind
 (AV.int?
 IntKind.i64
 p2178.fst)
 fun n2179 ↦
 Option.bind
 (uncons?
 p2178.snd)
 fun p2180 ↦
 Option.bind
 (AV.int?
 IntKind.i64
 p2180.fst)
 fun n2181 ↦
 Option.bind
 (uncons?
 p2180.snd)
 fun p2182 ↦
 Option.bind
 (AV.int?
 IntKind.i64
 p2182.fst)
 fun n2183 ↦
 Option.bind
 (uncons?
 p2182.snd)
 fun
 p2184 ↦
 Option.bind
 (AV.int?
 IntKind.i64
 p2184.fst)
 fun
 n2185 ↦
 Option.bind
 (uncons?
 p2184.snd)
 fun
 p2186 ↦
 Option.bind
 (AV.int?
 IntKind.i64
 p2186.fst)
 fun
 n2187 ↦
 Option.bind
 (uncons?
 p2186.snd)
 fun
 p2188 ↦
 Option.bind
 (AV.int?
 IntKind.i64
 p2188.fst)
 fun
 n2189 ↦
 Option.bind
 (uncons?
 p2188.snd)
 fun
 p2190 ↦
 Option.bind
 (AV.int?
 IntKind.u64
 p2190.fst)
 fun
 n2191 ↦
 Option.bind
 (nil?
 p2190.snd)
 fun
 _ ↦
 Option.bind
 (chk
 p2168.fst.ver
 0)
 fun
 _ ↦
 Option.bind
 (uncons?
 p2168.snd)
 fun
 p2194 ↦
 Option.bind
 (obIs
 (Ob.mk
 OK.box
 25
 6
 0
 [[vi
 x2000,
 vi
 x2001,
 vi
 x2002,
 vi
 x2003,
 vi
 x2004,
 vi
 x2005]])
 p2194.fst)
 fun
 _ ↦
 Option.bind
 (uncons?
 p2194.fst.es)
 fun
 p2196 ↦
 Option.bind
 (nil?
 p2196.snd)
 fun
 _ ↦
 Option.bind
 (uncons?
 p2196.fst)
 fun
 p2198 ↦
 Option.bind
 (AV.int?
 IntKind.i64
 p2198.fst)
 fun
 n2199 ↦
 Option.bind
 (uncons?
 p2198.snd)
 fun
 p2200 ↦
 Option.bind
 (AV.int?
 IntKind.i64
 p2200.fst)
 fun
 n2201 ↦
 Option.bind
 (uncons?
 p2200.snd)
 fun
 p2202 ↦
 Option.bind
 (AV.int?
 IntKind.i64
 p2202.fst)
 fun
 n2203 ↦
 Option.bind
 (uncons?
 p2202.snd)
 fun
 p2204 ↦
 Option.bind
 (AV.int?
 IntKind.i64
 p2204.fst)
 fun
 n2205 ↦
 Option.bind
 (uncons?
 p2204.snd)
 fun
 p2206 ↦
 Option.bind
 (AV.int?
 IntKind.i64
 p2206.fst)
 fun
 n2207 ↦
 Option.bind
 (uncons?
 p2206.snd)
 fun
 p2208 ↦
 Option.bind
 (AV.int?
 IntKind.i64
 p2208.fst)
 fun
 n2209 ↦
 Option.bind
 (nil?
 p2208.snd)
 fun
 _ ↦
 Option.bind
 (chk
 p2194.fst.ver
 0)
 fun
 _ ↦
 Option.bind
 (uncons?
 p2194.snd)
 fun
 p2212 ↦
 Option.bind
 (obIs
 (Ob.mk
 OK.box
 24
 10
 0
 [[vi
 x2006,
 vi
 x2007,
 vi
 x2008,
 vi
 x2009,
 vi
 x2010,
 vi
 x2011,
 vi
 x2012,
 vi
 x2013,
 vi
 x2014,
 vu
 x2015]])
 p2212.fst)
 fun
 _ ↦
 Option.bind
 (uncons?
 p2212.fst.es)
 fun
 p2214 ↦
 Option.bind
 (nil?
 p2214.snd)
 fun
 _ ↦
 Option.bind
 (uncons?
 p2214.fst)
 fun
 p2216 ↦
 Option.bind
 (AV.int?
 IntKind.i64
 p2216.fst)
 fun
 n2217 ↦
 Option.bind
 (uncons?
 p2216.snd)
 fun
 p2218 ↦
 Option.bind
 (AV.int?
 IntKind.i64
 p2218.fst)
 fun
 n2219 ↦
 Option.bind
 (uncons?
 p2218.snd)
 fun
 p2220 ↦
 Option.bind
 (AV.int?
 IntKind.i64
 p2220.fst)
 fun
 n2221 ↦
 Option.bind
 (uncons?
 p2220.snd)
 fun
 p2222 ↦
 Option.bind
 (AV.int?
 IntKind.i64
 p2222.fst)
 fun
 n2223 ↦
 Option.bind
 (uncons?
 p2222.snd)
 fun
 p2224 ↦
 Option.bind
 (AV.int?
 IntKind.i64
 p2224.fst)
 fun
 n2225 ↦
 Option.bind
 (uncons?
 p2224.snd)
 fun
 p2226 ↦
 Option.bind
 (AV.int?
 IntKind.i64
 p2226.fst)
 fun
 n2227 ↦
 Option.bind
 (uncons?
 p2226.snd)
 fun
 p2228 ↦
 Option.bind
 (AV.int?
 IntKind.i64
 p2228.fst)
 fun
 n2229 ↦
 Option.bind
 (uncons?
 p2228.snd)
 fun
 p2230 ↦
 Option.bind
 (AV.int?
 IntKind.i64
 p2230.fst)
 fun
 n2231 ↦
 Option.bind
 (uncons?
 p2230.snd)
 fun
 p2232 ↦
 Option.bind
 (AV.int?
 IntKind.i64
 p2232.fst)
 fun
 n2233 ↦
 Option.bind
 (uncons?
 p2232.snd)
 fun
 p2234 ↦
 Option.bind
 (AV.int?
 IntKind.u64
 p2234.fst)
 fun
 n2235 ↦
 Option.bind
 (nil?
 p2234.snd)
 fun
 _ ↦
 Option.bind
 (chk
 p2212.fst.ver
 0)
 fun
 _ ↦
 Option.bind
 (uncons?
 p2212.snd)
 fun
 p2238 ↦
 Option.bind
 (obIs
 (Ob.mk
 OK.box
 24
 10
 0
 [[vi
 n2018,
 vi
 n2020,
 vi
 n2022,
 vi
 n2024,
 vi
 n2026,
 vi
 n2028,
 vi
 n2030,
 vi
 n2032,
 vi
 n2034,
 vu
 n2036]])
 p2238.fst)
 fun
 _ ↦
 Option.bind
 (uncons?
 p2238.fst.es)
 fun
 p2240 ↦
 Option.bind
 (nil?
 p2240.snd)
 fun
 _ ↦
 Option.bind
 (uncons?
 p2240.fst)
 fun
 p2242 ↦
 Option.bind
 (AV.int?
 IntKind.i64
 p2242.fst)
 fun
 _ ↦
 Option.bind
 (uncons?
 p2242.snd)
 fun
 p2244 ↦
 Option.bind
 (AV.int?
 IntKind.i64
 p2244.fst)
 fun
 _ ↦
 Option.bind
 (uncons?
 p2244.snd)
 fun
 p2246 ↦
 Option.bind
 (AV.int?
 IntKind.i64
 p2246.fst)
 fun
 _ ↦
 Option.bind
 (uncons?
 p2246.snd)
 fun
 p2248 ↦
 Option.bind
 (AV.int?
 IntKind.i64
 p2248.fst)
 fun
 _ ↦
 Option.bind
 (uncons?
 p2248.snd)
 fun
 p2250 ↦
 Option.bind
 (AV.int?
 IntKind.i64
 p2250.fst)
 fun
 _ ↦
 Option.bind
 (uncons?
 p2250.snd)
 fun
 p2252 ↦
 Option.bind
 (AV.int?
 IntKind.i64
 p2252.fst)
 fun
 _ ↦
 Option.bind
 (uncons?
 p2252.snd)
 fun
 p2254 ↦
 Option.bind
 (AV.int?
 IntKind.i64
 p2254.fst)
 fun
 _ ↦
 Option.bind
 (uncons?
 p2254.snd)
 fun
 p2256 ↦
 Option.bind
 (AV.int?
 IntKind.i64
 p2256.fst)
 fun
 _ ↦
 Option.bind
 (uncons?
 p2256.snd)
 fun
 p2258 ↦
 Option.bind
 (AV.int?
 IntKind.i64
 p2258.fst)
 fun
 _ ↦
 Option.bind
 (uncons?
 p2258.snd)
 fun
 p2260 ↦
 Option.bind
 (AV.int?
 IntKind.u64
 p2260.fst)
 fun
 _ ↦
 Option.bind
 (nil?
 p2260.snd)
 fun
 _ ↦
 Option.bind
 (chk
 p2238.fst.ver
 0)
 fun
 _ ↦
 Option.bind
 (nil?
 p2238.snd)
 fun
 _ ↦
 some
 (Out.jump
 JX.ret
 [vbool
 b2164,
 vi
 x1984],
 [Ob.mk
 OK.box
 24
 10
 0
 [[vi
 n2173,
 vi
 n2175,
 vi
 n2177,
 vi
 n2179,
 vi
 n2181,
 vi
 n2183,
 vi
 n2185,
 vi
 n2187,
 vi
 n2189,
 vu
 n2191]],
 Ob.mk
 OK.box
 25
 6
 0
 [[vi
 n2199,
 vi
 n2201,
 vi
 n2203,
 vi
 n2205,
 vi
 n2207,
 vi
 n2209]],
 Ob.mk
 OK.box
 24
 10
 0
 [[vi
 n2217,
 vi
 n2219,
 vi
 n2221,
 vi
 n2223,
 vi
 n2225,
 vi
 n2227,
 vi
 n2229,
 vi
 n2231,
 vi
 n2233,
 vu
 n2235]]])
 else none
 else none
 else
 some
 (Out.jump (JX.exit 0) [vbool b1983, vi x1984],
 [Ob.mk OK.box 24 10 0 [[vi x1990, vi x1991, vi x1992, vi x1993, vi x1994, vi x1995, vi x1996, vi x1997, vi x1998, vu x1999]],
 Ob.mk OK.box 25 6 0 [[vi x2000, vi x2001, vi x2002, vi x2003, vi x2004, vi x2005]],
 Ob.mk OK.box 24 10 0 [[vi x2006, vi x2007, vi x2008, vi x2009, vi x2010, vi x2011, vi x2012, vi x2013, vi x2014, vu x2015]]]) := by
  intros
  exact (E_fast _ _ _ _).trans (by kernel_rfl)

theorem f8_l0_l1 : ∀ (b2265 : Bool) (x2266 x2267 x2268 : Int) (b2269 : Bool) (l2270 : List (List AV)) (x2271 x2272 : Int) (l2273 : List (List AV))
 (x2274 x2275 x2276 x2277 x2278 x2279 x2280 x2281 x2282 x2283 x2284 x2285 x2286 x2287 x2288 x2289 x2290 x2291 x2292 x2293 x2294 x2295 x2296 x2297 x2298 x2299
 x2300 x2301 x2302 x2303 x2304 x2305 x2306 x2307 x2308 x2309 x2310 : Int),
 E cx (Key.loop 8 [true, true, true, false, true, false, false, true, true, false, false, true, true, false])
 [vbool b2265, vi x2266, vi x2267, vi x2268, vbool b2269, AV.ptr 2 0 0 0, AV.ptr 3 0 0 0, AV.list 0 10 l2270, vi x2271, vi x2272, AV.list 0 2 l2273,
 vi x2274]
 [Ob.mk OK.box 24 10 0 [[vi x2275, vi x2276, vi x2277, vi x2278, vi x2279, vi x2280, vi x2281, vi x2282, vi x2283, vu x2284]],
 Ob.mk OK.box 25 6 0 [[vi x2285, vi x2286, vi x2287, vi x2288, vi x2289, vi x2290]],
 Ob.mk OK.box 24 10 0 [[vi x2291, vi x2292, vi x2293, vi x2294, vi x2295, vi x2296, vi x2297, vi x2298, vi x2299, vu x2300]],
 Ob.mk OK.box 24 10 0 [[vi x2301, vi x2302, vi x2303, vi x2304, vi x2305, vi x2306, vi x2307, vi x2308, vi x2309, vu x2310]]] =
 bif decide (x2266 < x2274) then
 if 0 ≤ x2266 then
 Option.bind l2273[Int.toNat x2266]? fun cs2311 ↦
 Option.bind (uncons? cs2311) fun p2312 ↦
 Option.bind (AV.int? IntKind.i64 p2312.fst) fun n2313 ↦
 Option.bind (uncons? p2312.snd) fun p2314 ↦
 Option.bind (AV.int? IntKind.i64 p2314.fst) fun n2315 ↦
 Option.bind (nil? p2314.snd) fun _ ↦
 Option.bind
 (E cx (Key.fn 30)
 [AV.agg [vi x2301, vi x2302, vi x2303, vi x2304, vi x2305, vi x2306, vi x2307, vi x2308, vi x2309, vu x2310], vi n2315] [])
 fun r2317 ↦
 Option.bind (ret1 r2317) fun v2318 ↦
 Option.bind (AV.tup? v2318) fun vs2319 ↦
 Option.bind (uncons? vs2319) fun p2320 ↦
 Option.bind (AV.int? IntKind.i64 p2320.fst) fun n2321 ↦
 Option.bind (uncons? p2320.snd) fun p2322 ↦
 Option.bind (AV.int? IntKind.i64 p2322.fst) fun n2323 ↦
 Option.bind (nil? p2322.snd) fun _ ↦
 Option.bind
 (E cx (Key.fn 31)
 [AV.agg [vi x2301, vi x2302, vi x2303, vi x2304, vi x2305, vi x2306, vi x2307, vi x2308, vi x2309, vu x2310], vi n2315]
 [])
 fun r2325 ↦
 Option.bind (ret1 r2325) fun v2326 ↦
 Option.bind (AV.tup? v2326) fun vs2327 ↦
 Option.bind (uncons? vs2327) fun p2328 ↦
 Option.bind (AV.int? IntKind.i64 p2328.fst) fun n2329 ↦
 Option.bind (uncons? p2328.snd) fun p2330 ↦
 Option.bind (AV.int? IntKind.i64 p2330.fst) fun n2331 ↦
 Option.bind (nil? p2330.snd) fun _ ↦
 Option.bind
 (E cx (Key.fn 32)
 [AV.agg
 [vi x2301, vi x2302, vi x2303, vi x2304, vi x2305, vi x2306, vi x2307, vi x2308, vi x2309,
 vu x2310],
 vi n2315]
 [])
 fun r2333 ↦
 Option.bind (ret1 r2333) fun v2334 ↦
 Option.bind (AV.tup? v2334) fun vs2335 ↦
 Option.bind (uncons? vs2335) fun p2336 ↦
 Option.bind (AV.int? IntKind.i64 p2336.fst) fun n2337 ↦
 Option.bind (uncons? p2336.snd) fun p2338 ↦
 Option.bind (AV.int? IntKind.i64 p2338.fst) fun n2339 ↦
 Option.bind (nil? p2338.snd) fun _ ↦
 Option.bind
 (E cx (Key.fn 33)
 [AV.agg
 [vi x2301, vi x2302, vi x2303, vi x2304, vi x2305, vi x2306, vi x2307, vi x2308,
 vi x2309, vu x2310],
 vi n2315]
 [])
 fun r2341 ↦
 Option.bind (ret1 r2341) fun v2342 ↦
 Option.bind (AV.tup? v2342) fun vs2343 ↦
 Option.bind (uncons? vs2343) fun p2344 ↦
 Option.bind (AV.int? IntKind.i64 p2344.fst) fun n2345 ↦
 Option.bind (uncons? p2344.snd) fun p2346 ↦
 Option.bind (AV.int? IntKind.i64 p2346.fst) fun n2347 ↦
 Option.bind (nil? p2346.snd) fun _ ↦
 Option.bind
 (E cx (Key.fn 34)
 [AV.agg
 [vi x2301, vi x2302, vi x2303, vi x2304, vi x2305, vi x2306,
 vi x2307, vi x2308, vi x2309, vu x2310],
 vi n2313, vi n2315]
 [])
 fun r2349 ↦
 Option.bind (ret1 r2349) fun v2350 ↦
 Option.bind (AV.tup? v2350) fun vs2351 ↦
 Option.bind (uncons? vs2351) fun p2352 ↦
 Option.bind (AV.int? IntKind.i64 p2352.fst) fun n2353 ↦
 Option.bind (uncons? p2352.snd) fun p2354 ↦
 Option.bind (AV.int? IntKind.i64 p2354.fst) fun n2355 ↦
 Option.bind (nil? p2354.snd) fun _ ↦
 Option.bind
 (E cx (Key.fn 35)
 [AV.agg
 [vi x2301, vi x2302, vi x2303, vi x2304, vi x2305,
 vi x2306, vi x2307, vi x2308, vi x2309, vu x2310],
 vi n2313, vi n2315]
 [])
 fun r2357 ↦
 Option.bind (ret1 r2357) fun v2358 ↦
 Option.bind (AV.tup? v2358) fun vs2359 ↦
 Option.bind (uncons? vs2359) fun p2360 ↦
 Option.bind (AV.int? IntKind.i64 p2360.fst)
 fun n2361 ↦
 Option.bind (uncons? p2360.snd) fun p2362 ↦
 Option.bind (AV.int? IntKind.i64 p2362.fst)
 fun n2363 ↦
 Option.bind (nil? p2362.snd) fun _ ↦
 Option.bind
 (E cx (Key.fn 36)
 [AV.agg
 [vi x2301, vi x2302, vi x2303,
 vi x2304, vi x2305, vi x2306,
 vi x2307, vi x2308, vi x2309,
 vu x2310],
 vi n2313]
 [])
 fun r2365 ↦
 Option.bind (ret1 r2365) fun v2366 ↦
 Option.bind (AV.tup? v2366) fun vs2367 ↦
 Option.bind (uncons? vs2367)
 fun p2368 ↦
 Option.bind
 (AV.int? IntKind.i64 p2368.fst)
 fun n2369 ↦
 Option.bind (uncons? p2368.snd)
 fun p2370 ↦
 Option.bind
 (AV.int? IntKind.i64
 p2370.fst)
 fun n2371 ↦
 Option.bind
 (uncons? p2370.snd)
 fun p2372 ↦
 Option.bind
 (AV.int? IntKind.i64
 p2372.fst)
 fun n2373 ↦
 Option.bind
 (nil? p2372.snd)
 fun _ ↦
 Option.bind
 (E cx
 (Key.fn 37)
 [AV.agg
 [vi x2301,
 vi x2302,
 vi x2303,
 vi x2304,
 vi x2305,
 vi x2306,
 vi x2307,
 vi x2308,
 vi x2309,
 vu x2310],
 vi n2313]
 [])
 fun r2375 ↦
 Option.bind
 (ret1 r2375)
 fun v2376 ↦
 Option.bind
 (AV.tup? v2376)
 fun vs2377 ↦
 Option.bind
 (uncons? vs2377)
 fun p2378 ↦
 Option.bind
 (AV.int?
 IntKind.i64
 p2378.fst)
 fun n2379 ↦
 Option.bind
 (uncons?
 p2378.snd)
 fun p2380 ↦
 Option.bind
 (AV.int?
 IntKind.i64
 p2380.fst)
 fun
 n2381 ↦
 Option.bind
 (uncons?
 p2380.snd)
 fun
 p2382 ↦
 Option.bind
 (AV.int?
 IntKind.i64
 p2382.fst)
 fun
 n2383 ↦
 Option.bind
 (nil?
 p2382.snd)
 fun
 _ ↦
 bif
 n2321 !=
 n2329 then
 some
 (Out.jump
 JX.ret
 [vbool
 false,
 vi
 x2266],
 [Ob.mk
 OK.box
 24
 10
 0
 [[vi
 x2275,
 vi
 x2276,
 vi
 x2277,
 vi
 x2278,
 vi
 x2279,
 vi
 x2280,
 vi
 x2281,
 vi
 x2282,
 vi
 x2283,
 vu
 x2284]],
 Ob.mk
 OK.box
 25
 6
 0
 [[vi
 x2285,
 vi
 x2286,
 vi
 x2287,
 vi
 x2288,
 vi
 x2289,
 vi
 x2290]],
 Ob.mk
 OK.box
 24
 10
 0
 [[vi
 x2291,
 vi
 x2292,
 vi
 x2293,
 vi
 x2294,
 vi
 x2295,
 vi
 x2296,
 vi
 x2297,
 vi
 x2298,
 vi
 x2299,
 vu
 x2300]],
 Ob.mk
 OK.box
 24
 10
 0
 [[vi
 x2301,
 vi
 x2302,
 vi
 x2303,
 vi
 x2304,
 vi
 x2305,
 vi
 x2306,
 vi
 x2307,
 vi
 x2308,
 vi
 x2309,
 vu
 x2310]]])
 else
 bif
 n2323 !=
 n2331 then
 some
 (Out.jump
 JX.ret
 [vbool
 false,
 vi
 x2266],
 [Ob.mk
 OK.box
 24
 10
 0
 [[vi
 x2275,
 vi
 x2276,
 vi
 x2277,
 vi
 x2278,
 vi
 x2279,
 vi
 x2280,
 vi
 x2281,
 vi
 x2282,
 vi
 x2283,
 vu
 x2284]],
 Ob.mk
 OK.box
 25
 6
 0
 [[vi
 x2285,
 vi
 x2286,
 vi
 x2287,
 vi
 x2288,
 vi
 x2289,
 vi
 x2290]],
 Ob.mk
 OK.box
 24
 10
 0
 [[vi
 x2291,
 vi
 x2292,
 vi
 x2293,
 vi
 x2294,
 vi
 x2295,
 vi
 x2296,
 vi
 x2297,
 vi
 x2298,
 vi
 x2299,
 vu
 x2300]],
 Ob.mk
 OK.box
 24
 10
 0
 [[vi
 x2301,
 vi
 x2302,
 vi
 x2303,
 vi
 x2304,
 vi
 x2305,
 vi
 x2306,
 vi
 x2307,
 vi
 x2308,
 vi
 x2309,
 vu
 x2310]]])
 else
 bif
 n2337 !=
 n2345 then
 some
 (Out.jump
 JX.ret
 [vbool
 false,
 vi
 x2266],
 [Ob.mk
 OK.box
 24
 10
 0
 [[vi
 x2275,
 vi
 x2276,
 vi
 x2277,
 vi
 x2278,
 vi
 x2279,
 vi
 x2280,
 vi
 x2281,
 vi
 x2282,
 vi
 x2283,
 vu
 x2284]],
 Ob.mk
 OK.box
 25
 6
 0
 [[vi
 x2285,
 vi
 x2286,
 vi
 x2287,
 vi
 x2288,
 vi
 x2289,
 vi
 x2290]],
 Ob.mk
 OK.box
 24
 10
 0
 [[vi
 x2291,
 vi
 x2292,
 vi
 x2293,
 vi
 x2294,
 vi
 x2295,
 vi
 x2296,
 vi
 x2297,
 vi
 x2298,
 vi
 x2299,
 vu
 x2300]],
 Ob.mk
 OK.box
 24
 10
 0
 [[vi
 x2301,
 vi
 x2302,
 vi
 x2303,
 vi
 x2304,
 vi
 x2305,
 vi
 x2306,
 vi
 x2307,
 vi
 x2308,
 vi
 x2309,
 vu
 x2310]]])
 else
 bif
 n2339 !=
 n2347 then
 some
 (Out.jump
 JX.ret
 [vbool
 false,
 vi
 x2266],
 [Ob.mk
 OK.box
 24
 10
 0
 [[vi
 x2275,
 vi
 x2276,
 vi
 x2277,
 vi
 x2278,
 vi
 x2279,
 vi
 x2280,
 vi
 x2281,
 vi
 x2282,
 vi
 x2283,
 vu
 x2284]],
 Ob.mk
 OK.box
 25
 6
 0
 [[vi
 x2285,
 vi
 x2286,
 vi
 x2287,
 vi
 x2288,
 vi
 x2289,
 vi
 x2290]],
 Ob.mk
 OK.box
 24
 10
 0
 [[vi
 x2291,
 vi
 x2292,
 vi
 x2293,
 vi
 x2294,
 vi
 x2295,
 vi
 x2296,
 vi
 x2297,
 vi
 x2298,
 vi
 x2299,
 vu
 x2300]],
 Ob.mk
 OK.box
 24
 10
 0
 [[vi
 x2301,
 vi
 x2302,
 vi
 x2303,
 vi
 x2304,
 vi
 x2305,
 vi
 x2306,
 vi
 x2307,
 vi
 x2308,
 vi
 x2309,
 vu
 x2310]]])
 else
 bif
 n2353 !=
 n2361 then
 some
 (Out.jump
 JX.ret
 [vbool
 false,
 vi
 x2266],
 [Ob.mk
 OK.box
 24
 10
 0
 [[vi
 x2275,
 vi
 x2276,
 vi
 x2277,
 vi
 x2278,
 vi
 x2279,
 vi
 x2280,
 vi
 x2281,
 vi
 x2282,
 vi
 x2283,
 vu
 x2284]],
 Ob.mk
 OK.box
 25
 6
 0
 [[vi
 x2285,
 vi
 x2286,
 vi
 x2287,
 vi
 x2288,
 vi
 x2289,
 vi
 x2290]],
 Ob.mk
 OK.box
 24
 10
 0
 [[vi
 x2291,
 vi
 x2292,
 vi
 x2293,
 vi
 x2294,
 vi
 x2295,
 vi
 x2296,
 vi
 x2297,
 vi
 x2298,
 vi
 x2299,
 vu
 x2300]],
 Ob.mk
 OK.box
 24
 10
 0
 [[vi
 x2301,
 vi
 x2302,
 vi
 x2303,
 vi
 x2304,
 vi
 x2305,
 vi
 x2306,
 vi
 x2307,
 vi
 x2308,
 vi
 x2309,
 vu
 x2310]]])
 else
 bif
 n2355 !=
 n2363 then
 some
 (Out.jump
 JX.ret
 [vbool
 false,
 vi
 x2266],
 [Ob.mk
 OK.box
 24
 10
 0
 [[vi
 x2275,
 vi
 x2276,
 vi
 x2277,
 vi
 x2278,
 vi
 x2279,
 vi
 x2280,
 vi
 x2281,
 vi
 x2282,
 vi
 x2283,
 vu
 x2284]],
 Ob.mk
 OK.box
 25
 6
 0
 [[vi
 x2285,
 vi
 x2286,
 vi
 x2287,
 vi
 x2288,
 vi
 x2289,
 vi
 x2290]],
 Ob.mk
 OK.box
 24
 10
 0
 [[vi
 x2291,
 vi
 x2292,
 vi
 x2293,
 vi
 x2294,
 vi
 x2295,
 vi
 x2296,
 vi
 x2297,
 vi
 x2298,
 vi
 x2299,
 vu
 x2300]],
 Ob.mk
 OK.box
 24
 10
 0
 [[vi
 x2301,
 vi
 x2302,
 vi
 x2303,
 vi
 x2304,
 vi
 x2305,
 vi
 x2306,
 vi
 x2307,
 vi
 x2308,
 vi
 x2309,
 vu
 x2310]]])
 else
 bif
 n2369 !=
 n2379 then
 some
 (Out.jump
 JX.ret
 [vbool
 false,
 vi
 x2266],
 [Ob.mk
 OK.box
 24
 10
 0
 [[vi
 x2275,
 vi
 x2276,
 vi
 x2277,
 vi
 x2278,
 vi
 x2279,
 vi
 x2280,
 vi
 x2281,
 vi
 x2282,
 vi
 x2283,
 vu
 x2284]],
 Ob.mk
 OK.box
 25
 6
 0
 [[vi
 x2285,
 vi
 x2286,
 vi
 x2287,
 vi
 x2288,
 vi
 x2289,
 vi
 x2290]],
 Ob.mk
 OK.box
 24
 10
 0
 [[vi
 x2291,
 vi
 x2292,
 vi
 x2293,
 vi
 x2294,
 vi
 x2295,
 vi
 x2296,
 vi
 x2297,
 vi
 x2298,
 vi
 x2299,
 vu
 x2300]],
 Ob.mk
 OK.box
 24
 10
 0
 [[vi
 x2301,
 vi
 x2302,
 vi
 x2303,
 vi
 x2304,
 vi
 x2305,
 vi
 x2306,
 vi
 x2307,
 vi
 x2308,
 vi
 x2309,
 vu
 x2310]]])
 else
 bif
 n2371 !=
 n2381 then
 some
 (Out.jump
 JX.ret
 [vbool
 false,
 vi
 x2266],
 [Ob.mk
 OK.box
 24
 10
 0
 [[vi
 x2275,
 vi
 x2276,
 vi
 x2277,
 vi
 x2278,
 vi
 x2279,
 vi
 x2280,
 vi
 x2281,
 vi
 x2282,
 vi
 x2283,
 vu
 x2284]],
 Ob.mk
 OK.box
 25
 6
 0
 [[vi
 x2285,
 vi
 x2286,
 vi
 x2287,
 vi
 x2288,
 vi
 x2289,
 vi
 x2290]],
 Ob.mk
 OK.box
 24
 10
 0
 [[vi
 x2291,
 vi
 x2292,
 vi
 x2293,
 vi
 x2294,
 vi
 x2295,
 vi
 x2296,
 vi
 x2297,
 vi
 x2298,
 vi
 x2299,
 vu
 x2300]],
 Ob.mk
 OK.box
 24
 10
 0
 [[vi
 x2301,
 vi
 x2302,
 vi
 x2303,
 vi
 x2304,
 vi
 x2305,
 vi
 x2306,
 vi
 x2307,
 vi
 x2308,
 vi
 x2309,
 vu
 x2310]]])
 else
 bif
 n2373 !=
 n2383 then
 some
 (Out.jump
 JX.ret
 [vbool
 false,
 vi
 x2266],
 [Ob.mk
 OK.box
 24
 10
 0
 [[vi
 x2275,
 vi
 x2276,
 vi
 x2277,
 vi
 x2278,
 vi
 x2279,
 vi
 x2280,
 vi
 x2281,
 vi
 x2282,
 vi
 x2283,
 vu
 x2284]],
 Ob.mk
 OK.box
 25
 6
 0
 [[vi
 x2285,
 vi
 x2286,
 vi
 x2287,
 vi
 x2288,
 vi
 x2289,
 vi
 x2290]],
 Ob.mk
 OK.box
 24
 10
 0
 [[vi
 x2291,
 vi
 x2292,
 vi
 x2293,
 vi
 x2294,
 vi
 x2295,
 vi
 x2296,
 vi
 x2297,
 vi
 x2298,
 vi
 x2299,
 vu
 x2300]],
 Ob.mk
 OK.box
 24
 10
 0
 [[vi
 x2301,
 vi
 x2302,
 vi
 x2303,
 vi
 x2304,
 vi
 x2305,
 vi
 x2306,
 vi
 x2307,
 vi
 x2308,
 vi
 x2309,
 vu
 x2310]]])
 else
 Go.Proofs.Av.E
 cx
 (Key.loop
 8
 [true,
 true,
 true,
 false,
 true,
 false,
 false,
 true,
 true,
 false,
 false,
 true,
 true,
 false])
 [vbool
 b2265,
 vi
 (IntKind.wrap
 IntKind.i64
 (Int.add
 x2266
 1)),
 vi
 x2267,
 vi
 x2268,
 vbool
 b2269,
 AV.ptr
 2
 0
 0
 0,
 AV.ptr
 3
 0
 0
 0,
 AV.list
 0
 10
 l2270,
 vi
 x2271,
 vi
 x2272,
 AV.list
 0
 2
 l2273,
 vi
 x2274]
 [Ob.mk
 OK.box
 24
 10
 0
 [[vi
 x2275,
 vi
 x2276,
 vi
 x2277,
 vi
 x2278,
 vi
 x2279,
 vi
 x2280,
 vi
 x2281,
 vi
 x2282,
 vi
 x2283,
 vu
 x2284]],
 Ob.mk
 OK.box
 25
 6
 0
 [[vi
 x2285,
 vi
 x2286,
 vi
 x2287,
 vi
 x2288,
 vi
 x2289,
 vi
 x2290]],
 Ob.mk
 OK.box
 24
 10
 0
 [[vi
 x2291,
 vi
 x2292,
 vi
 x2293,
 vi
 x2294,
 vi
 x2295,
 vi
 x2296,
 vi
 x2297,
 vi
 x2298,
 vi
 x2299,
 vu
 x2300]],
 Ob.mk
 OK.box
 24
 10
 0
 [[vi
 x2301,
 vi
 x2302,
 vi
 x2303,
 vi
 x2304,
 vi
 x2305,
 vi
 x2306,
 vi
 x2307,
 vi
 x2308,
 vi
 x2309,
 vu
 x2310]]]
 else none
 else
 some
 (Out.jump (JX.exit 2) [vbool b2265, vi x2266],
 [Ob.mk OK.box 24 10 0 [[vi x2275, vi x2276, vi x2277, vi x2278, vi x2279, vi x2280, vi x2281, vi x2282, vi x2283, vu x2284]],
 Ob.mk OK.box 25 6 0 [[vi x2285, vi x2286, vi x2287, vi x2288, vi x2289, vi x2290]],
 Ob.mk OK.box 24 10 0 [[vi x2291, vi x2292, vi x2293, vi x2294, vi x2295, vi x2296, vi x2297, vi x2298, vi x2299, vu x2300]],
 Ob.mk OK.box 24 10 0 [[vi x2301, vi x2302, vi x2303, vi x2304, vi x2305, vi x2306, vi x2307, vi x2308, vi x2309, vu x2310]]]) := by
  intros
  exact (E_fast _ _ _ _).trans (by kernel_rfl)

end Go.Proofs.Av
