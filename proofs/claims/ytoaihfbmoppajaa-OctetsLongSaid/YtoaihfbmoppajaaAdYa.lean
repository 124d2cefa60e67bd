/- A law's tree. -/
import Derived.Test.YtoaihfbmoppajaaAdY
set_option maxRecDepth 100000
namespace Go.Proofs.Av
open Go
def q13_0 := ByteArray.mk (Array.mk [UInt8.ofNat 98, UInt8.ofNat 99])
theorem f13 : E cx (Key.fn 13) [] [] = Option.bind (E cx (Key.fn 20) [vs (ByteArray.mk (Array.mk [UInt8.ofNat 97])), AV.list 0 1 [[vs (q13_0)], [vs (ByteArray.mk (Array.mk []))]]] []) fun r1883 ↦
 Option.bind (ret1 r1883) fun v1884 ↦
 Option.bind (AV.tup? v1884) fun vs1885 ↦
 Option.bind (uncons? vs1885) fun p1886 ↦
 Option.bind (AV.str? p1886.fst) fun s1887 ↦
 Option.bind (uncons? p1886.snd) fun p1888 ↦
 Option.bind (AV.int? IntKind.i64 p1888.fst) fun n1889 ↦
 Option.bind (nil? p1888.snd) fun _ ↦
 Option.bind (E cx (Key.fn 22) [vs s1887, vi 1, vi 2] []) fun r1891 ↦
 Option.bind (ret1 r1891) fun v1892 ↦
 Option.bind (AV.tup? v1892) fun vs1893 ↦
 Option.bind (uncons? vs1893) fun p1894 ↦
 Option.bind (AV.str? p1894.fst) fun s1895 ↦
 Option.bind (uncons? p1894.snd) fun p1896 ↦
 Option.bind (AV.list? 1 p1896.fst) fun es1897 ↦
 Option.bind (uncons? p1896.snd) fun p1898 ↦
 Option.bind (AV.int? IntKind.i64 p1898.fst) fun n1899 ↦
 Option.bind (nil? p1898.snd) fun _ ↦
 Option.bind (E cx (Key.fn 16) [vs (ByteArray.mk (Array.mk [UInt8.ofNat 1, UInt8.ofNat 2, UInt8.ofNat 120])), vi 2] []) fun r1901 ↦
 Option.bind (ret1 r1901) fun v1902 ↦
 Option.bind (AV.tup? v1902) fun vs1903 ↦
 Option.bind (uncons? vs1903) fun p1904 ↦
 Option.bind (AV.int? IntKind.u64 p1904.fst) fun n1905 ↦
 Option.bind (uncons? p1904.snd) fun p1906 ↦
 Option.bind (AV.str? p1906.fst) fun s1907 ↦
 Option.bind (uncons? p1906.snd) fun p1908 ↦
 Option.bind (AV.int? IntKind.i64 p1908.fst) fun n1909 ↦
 Option.bind (nil? p1908.snd) fun _ ↦
 Option.bind (E cx (Key.fn 16) [vs (ByteArray.mk (Array.mk [UInt8.ofNat 97])), vi 2] []) fun r1911 ↦
 Option.bind (ret1 r1911) fun v1912 ↦
 Option.bind (AV.tup? v1912) fun vs1913 ↦
 Option.bind (uncons? vs1913) fun p1914 ↦
 Option.bind (AV.int? IntKind.u64 p1914.fst) fun _ ↦
 Option.bind (uncons? p1914.snd) fun p1916 ↦
 Option.bind (AV.str? p1916.fst) fun _ ↦
 Option.bind (uncons? p1916.snd) fun p1918 ↦
 Option.bind (AV.int? IntKind.i64 p1918.fst) fun n1919 ↦
 Option.bind (nil? p1918.snd) fun _ ↦
 Option.bind (E cx (Key.fn 16) [vs (ByteArray.mk (Array.mk [UInt8.ofNat 97])), vi 9] []) fun r1921 ↦
 Option.bind (ret1 r1921) fun v1922 ↦
 Option.bind (AV.tup? v1922) fun vs1923 ↦
 Option.bind (uncons? vs1923) fun p1924 ↦
 Option.bind (AV.int? IntKind.u64 p1924.fst) fun _ ↦
 Option.bind (uncons? p1924.snd) fun p1926 ↦
 Option.bind (AV.str? p1926.fst) fun _ ↦
 Option.bind (uncons? p1926.snd) fun p1928 ↦
 Option.bind (AV.int? IntKind.i64 p1928.fst) fun n1929 ↦
 Option.bind (nil? p1928.snd) fun _ ↦
 Option.bind (E cx (Key.fn 22) [vs (ByteArray.mk (Array.mk [UInt8.ofNat 97, UInt8.ofNat 98, UInt8.ofNat 99, UInt8.ofNat 100])), vi 5, vi 0] []) fun r1931 ↦
 Option.bind (ret1 r1931) fun v1932 ↦
 Option.bind (AV.tup? v1932) fun vs1933 ↦
 Option.bind (uncons? vs1933) fun p1934 ↦
 Option.bind (AV.str? p1934.fst) fun _ ↦
 Option.bind (uncons? p1934.snd) fun p1936 ↦
 Option.bind (AV.list? 1 p1936.fst) fun _ ↦
 Option.bind (uncons? p1936.snd) fun p1938 ↦
 Option.bind (AV.int? IntKind.i64 p1938.fst) fun n1939 ↦
 Option.bind (nil? p1938.snd) fun _ ↦
 bif decide (n1889 = 0) then
 bif List.beq (ByteArray.toList s1887) (ByteArray.toList (ByteArray.mk (Array.mk [UInt8.ofNat 97, UInt8.ofNat 9, UInt8.ofNat 0, UInt8.ofNat 0, UInt8.ofNat 0, UInt8.ofNat 11, UInt8.ofNat 0, UInt8.ofNat 0, UInt8.ofNat 0, UInt8.ofNat 98, UInt8.ofNat 99]))) then
 bif List.beq (ByteArray.toList s1895) (ByteArray.toList (ByteArray.mk (Array.mk [UInt8.ofNat 97]))) then
 bif decide (n1899 = 0) then
 Option.bind (E cx (Key.fn 24) [AV.list 0 1 es1897, AV.list 0 1 [[vs (q13_0)], [vs (ByteArray.mk (Array.mk []))]]] []) fun r1941 ↦
 Option.bind (ret1 r1941) fun v1942 ↦
 Option.bind (AV.bool? v1942) fun b1943 ↦
 bif b1943 then
 bif decide (n1905 = 513) then
 bif List.beq (ByteArray.toList s1907) (ByteArray.toList (ByteArray.mk (Array.mk [UInt8.ofNat 120]))) then
 bif decide (n1909 = 0) then
 bif decide (n1919 = 3) then
 bif decide (n1929 = 1) then
 bif decide (n1939 = 3) then
 Option.bind (E cx (Key.fn 18) [vu 513, vi 2] []) fun r1944 ↦
 Option.bind (ret1 r1944) fun v1945 ↦
 Option.bind (AV.str? v1945) fun s1946 ↦
 bif List.beq (ByteArray.toList s1946) (ByteArray.toList (ByteArray.mk (Array.mk [UInt8.ofNat 1, UInt8.ofNat 2]))) then
 some (Out.ret (vbool true), []) else some (Out.ret (vbool false), []) else some (Out.ret (vbool false), []) else some (Out.ret (vbool false), []) else some (Out.ret (vbool false), []) else some (Out.ret (vbool false), []) else some (Out.ret (vbool false), []) else some (Out.ret (vbool false), []) else some (Out.ret (vbool false), []) else some (Out.ret (vbool false), []) else some (Out.ret (vbool false), []) else some (Out.ret (vbool false), []) else some (Out.ret (vbool false), []) := by
  intros
  exact (E_in [52] _ _ _).trans (by kernel_rfl)

end Go.Proofs.Av
