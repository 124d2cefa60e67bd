/- The tree of law 3. -/
import Derived.Test.YtoepfmodbhfckaaDoorAhV
set_option maxRecDepth 100000
namespace Go.Proofs.Av
open Go
open Option renaming bind→Ω
open Go.IntKind renaming i64→ı
open Go.IntKind renaming u64→υ
open List renaming length→ℓ
open Int renaming toNat→τ
noncomputable def q3_0:JX×List AV×Heap →
 Int →
 Int →
 Int →
 Int →
 Int →
 Int →
 Int →
 Int →
 Int →
 Int →
 Int →
 List (List AV) →
 Bool →
 List (List AV) →
 Int →
 Int →
 Int →
 Int →
 Int →
 Int →
 List (List AV) →
 List (List AV) →
 Bool →
 Int →
 Int →
 Int →
 Int →
 Int →
 Int →
 Int →
 Int →
 Int →
 List (List AV) →
 Bool →
 List (List AV) →
 Int →
 Int →
 Int →
 Int →
 Int →
 Int →
 List (List AV) →
 Bool →
 List (List AV) →
 Int →
 Bool →
 List (List AV) →
 Int →
 Int →
 Int →
 Int →
 Int →
 Int →
 List (List AV) →
 Bool →
 List (List AV) →
 Int →
 Bool →
 List (List AV) →
 Int →
 Int →
 Int →
 Int →
 Int →
 Int →
 List
 (List AV) →
 Bool →
 List
 (List
 AV) →
 Int →
 Bool →
 List
 (List
 AV) →
 Int →
 Int →
 Int →
 Int →
 Int →
 Int →
 List
 (List
 AV) →
 Bool →
 List
 (List
 AV) →
 Option
 (Out ×
 Heap) :=
 fun j560 n316 n318 n320 n322 n324 n332 n334 n336 n338 n340 n342 es344 b346 es348 n356 n358 n360 n362 n364 n366 es368 es370 b372 n380 n382 n384 n392 n394 n396
 n398 n400 n402 es404 b406 es408 n416 n418 n420 n422 n424 n426 es428 b430 es432 n440 b442 es444 n446 n448 n450 n452 n454 n456 es458 b460 es462 n470 b472
 es474 n476 n478 n480 n482 n484 n486 es488 b490 es492 n500 b502 es504 n506 n508 n510 n512 n514 n516 es518 b520 es522 ↦
 bif JX.is j560.fst JX.ret then
 Ω (uncons? j560.snd.fst) fun p793 ↦
 Ω (AV.bool? p793.fst) fun b794 ↦
 Ω (uncons? p793.snd) fun p795 ↦
 Ω (AV.int? ı p795.fst) fun _ ↦
 Ω (nil? p795.snd) fun _ ↦
 Ω (uncons? j560.snd.snd) fun p798 ↦
 Ω
 (obIs
 (Ob.mk OK.box 24 5 0
 [[vu n316,vu n318,vu n320,vu n322,vu n324]])
 p798.fst)
 fun _ ↦
 Ω (chk p798.fst.ver 0) fun _ ↦
 Ω (uncons? p798.fst.es) fun p801 ↦
 Ω (nil? p801.snd) fun _ ↦
 Ω (uncons? p801.fst) fun p803 ↦
 Ω (AV.int? υ p803.fst) fun _ ↦
 Ω (uncons? p803.snd) fun p805 ↦
 Ω (AV.int? υ p805.fst) fun _ ↦
 Ω (uncons? p805.snd) fun p807 ↦
 Ω (AV.int? υ p807.fst) fun _ ↦
 Ω (uncons? p807.snd) fun p809 ↦
 Ω (AV.int? υ p809.fst) fun _ ↦
 Ω (uncons? p809.snd) fun p811 ↦
 Ω (AV.int? υ p811.fst) fun _ ↦
 Ω (nil? p811.snd) fun _ ↦
 Ω (uncons? p798.snd) fun p814 ↦
 Ω
 (obIs
 (Ob.mk OK.box 32 9 0
 [[vu n332,vu n334,vu n336,vu n338,
 vu n340,vi n342,AV.list 0 1 es344,vbool b346,
 AV.list 0 2 es348]])
 p814.fst)
 fun _ ↦
 Ω (chk p814.fst.ver 0) fun _ ↦
 Ω (uncons? p814.fst.es) fun p817 ↦
 Ω (nil? p817.snd) fun _ ↦
 Ω (uncons? p817.fst) fun p819 ↦
 Ω (AV.int? υ p819.fst) fun _ ↦
 Ω (uncons? p819.snd) fun p821 ↦
 Ω (AV.int? υ p821.fst) fun _ ↦
 Ω (uncons? p821.snd) fun p823 ↦
 Ω (AV.int? υ p823.fst) fun _ ↦
 Ω (uncons? p823.snd) fun p825 ↦
 Ω (AV.int? υ p825.fst) fun _ ↦
 Ω (uncons? p825.snd) fun p827 ↦
 Ω (AV.int? υ p827.fst) fun _ ↦
 Ω (uncons? p827.snd) fun p829 ↦
 Ω (AV.int? ı p829.fst) fun _ ↦
 Ω (uncons? p829.snd) fun p831 ↦
 Ω (AV.list? 1 p831.fst) fun _ ↦
 Ω (uncons? p831.snd) fun p833 ↦
 Ω (AV.bool? p833.fst) fun _ ↦
 Ω (uncons? p833.snd) fun p835 ↦
 Ω (AV.list? 2 p835.fst) fun _ ↦
 Ω (nil? p835.snd) fun _ ↦
 Ω (uncons? p814.snd) fun p838 ↦
 Ω
 (obIs
 (Ob.mk OK.box 35 9 0
 [[vi n356,vi n358,
 vi n360,vi n362,
 vi n364,vi n366,
 AV.list 0 1 es368,
 AV.list 0 1 es370,
 vbool b372]])
 p838.fst)
 fun _ ↦
 Ω (chk p838.fst.ver 0) fun _ ↦
 Ω (uncons? p838.fst.es) fun p841 ↦
 Ω (nil? p841.snd) fun _ ↦
 Ω (uncons? p841.fst) fun p843 ↦
 Ω
 (AV.int? ı p843.fst)
 fun _ ↦
 Ω (uncons? p843.snd)
 fun p845 ↦
 Ω
 (AV.int? ı p845.fst)
 fun _ ↦
 Ω (uncons? p845.snd)
 fun p847 ↦
 Ω
 (AV.int? ı
 p847.fst)
 fun _ ↦
 Ω (uncons? p847.snd)
 fun p849 ↦
 Ω
 (AV.int? ı
 p849.fst)
 fun _ ↦
 Ω
 (uncons? p849.snd)
 fun p851 ↦
 Ω
 (AV.int? ı
 p851.fst)
 fun _ ↦
 Ω
 (uncons? p851.snd)
 fun p853 ↦
 Ω
 (AV.int?
 ı p853.fst)
 fun _ ↦
 Ω
 (uncons?
 p853.snd)
 fun p855 ↦
 Ω
 (AV.list? 1
 p855.fst)
 fun _ ↦
 Ω
 (uncons?
 p855.snd)
 fun p857 ↦
 Ω
 (AV.list? 1
 p857.fst)
 fun _ ↦
 Ω
 (uncons?
 p857.snd)
 fun p859 ↦
 Ω
 (AV.bool?
 p859.fst)
 fun _ ↦
 Ω
 (nil?
 p859.snd)
 fun _ ↦
 Ω
 (uncons?
 p838.snd)
 fun p862 ↦
 Ω
 (obIs
 (Ob.mk
 OK.box
 37 3 0
 [[vu
 n380,
 vu
 n382,
 vu
 n384]])
 p862.fst)
 fun _ ↦
 Ω
 (chk
 p862.fst.ver
 0)
 fun _ ↦
 Ω
 (uncons?
 p862.fst.es)
 fun p865 ↦
 Ω
 (nil?
 p865.snd)
 fun
 _ ↦
 Ω
 (uncons?
 p865.fst)
 fun
 p867 ↦
 Ω
 (AV.int?
 υ
 p867.fst)
 fun
 _ ↦
 Ω
 (uncons?
 p867.snd)
 fun
 p869 ↦
 Ω
 (AV.int?
 υ
 p869.fst)
 fun
 _ ↦
 Ω
 (uncons?
 p869.snd)
 fun
 p871 ↦
 Ω
 (AV.int?
 υ
 p871.fst)
 fun
 _ ↦
 Ω
 (nil?
 p871.snd)
 fun
 _ ↦
 Ω
 (uncons?
 p862.snd)
 fun
 p874 ↦
 Ω
 (obIs
 (Ob.mk
 OK.box
 32
 9
 0
 [[vu
 n392,
 vu
 n394,
 vu
 n396,
 vu
 n398,
 vu
 n400,
 vi
 n402,
 AV.list
 0
 1
 es404,
 vbool
 b406,
 AV.list
 0
 2
 es408]])
 p874.fst)
 fun
 _ ↦
 Ω
 (chk
 p874.fst.ver
 0)
 fun
 _ ↦
 Ω
 (uncons?
 p874.fst.es)
 fun
 p877 ↦
 Ω
 (nil?
 p877.snd)
 fun
 _ ↦
 Ω
 (uncons?
 p877.fst)
 fun
 p879 ↦
 Ω
 (AV.int?
 υ
 p879.fst)
 fun
 _ ↦
 Ω
 (uncons?
 p879.snd)
 fun
 p881 ↦
 Ω
 (AV.int?
 υ
 p881.fst)
 fun
 _ ↦
 Ω
 (uncons?
 p881.snd)
 fun
 p883 ↦
 Ω
 (AV.int?
 υ
 p883.fst)
 fun
 _ ↦
 Ω
 (uncons?
 p883.snd)
 fun
 p885 ↦
 Ω
 (AV.int?
 υ
 p885.fst)
 fun
 _ ↦
 Ω
 (uncons?
 p885.snd)
 fun
 p887 ↦
 Ω
 (AV.int?
 υ
 p887.fst)
 fun
 _ ↦
 Ω
 (uncons?
 p887.snd)
 fun
 p889 ↦
 Ω
 (AV.int?
 ı
 p889.fst)
 fun
 _ ↦
 Ω
 (uncons?
 p889.snd)
 fun
 p891 ↦
 Ω
 (AV.list?
 1
 p891.fst)
 fun
 _ ↦
 Ω
 (uncons?
 p891.snd)
 fun
 p893 ↦
 Ω
 (AV.bool?
 p893.fst)
 fun
 _ ↦
 Ω
 (uncons?
 p893.snd)
 fun
 p895 ↦
 Ω
 (AV.list?
 2
 p895.fst)
 fun
 _ ↦
 Ω
 (nil?
 p895.snd)
 fun
 _ ↦
 Ω
 (uncons?
 p874.snd)
 fun
 p898 ↦
 Ω
 (obIs
 (Ob.mk
 OK.box
 32
 9
 0
 [[vu
 n416,
 vu
 n418,
 vu
 n420,
 vu
 n422,
 vu
 n424,
 vi
 n426,
 AV.list
 0
 1
 es428,
 vbool
 b430,
 AV.list
 0
 2
 es432]])
 p898.fst)
 fun
 _ ↦
 Ω
 (chk
 p898.fst.ver
 0)
 fun
 _ ↦
 Ω
 (uncons?
 p898.fst.es)
 fun
 p901 ↦
 Ω
 (nil?
 p901.snd)
 fun
 _ ↦
 Ω
 (uncons?
 p901.fst)
 fun
 p903 ↦
 Ω
 (AV.int?
 υ
 p903.fst)
 fun
 _ ↦
 Ω
 (uncons?
 p903.snd)
 fun
 p905 ↦
 Ω
 (AV.int?
 υ
 p905.fst)
 fun
 _ ↦
 Ω
 (uncons?
 p905.snd)
 fun
 p907 ↦
 Ω
 (AV.int?
 υ
 p907.fst)
 fun
 _ ↦
 Ω
 (uncons?
 p907.snd)
 fun
 p909 ↦
 Ω
 (AV.int?
 υ
 p909.fst)
 fun
 _ ↦
 Ω
 (uncons?
 p909.snd)
 fun
 p911 ↦
 Ω
 (AV.int?
 υ
 p911.fst)
 fun
 _ ↦
 Ω
 (uncons?
 p911.snd)
 fun
 p913 ↦
 Ω
 (AV.int?
 ı
 p913.fst)
 fun
 _ ↦
 Ω
 (uncons?
 p913.snd)
 fun
 p915 ↦
 Ω
 (AV.list?
 1
 p915.fst)
 fun
 _ ↦
 Ω
 (uncons?
 p915.snd)
 fun
 p917 ↦
 Ω
 (AV.bool?
 p917.fst)
 fun
 _ ↦
 Ω
 (uncons?
 p917.snd)
 fun
 p919 ↦
 Ω
 (AV.list?
 2
 p919.fst)
 fun
 _ ↦
 Ω
 (nil?
 p919.snd)
 fun
 _ ↦
 Ω
 (uncons?
 p898.snd)
 fun
 p922 ↦
 Ω
 (obIs
 (Ob.mk
 OK.box
 41
 12
 0
 [[vu
 n440,
 vbool
 b442,
 AV.list
 0
 2
 es444,
 vu
 n446,
 vu
 n448,
 vu
 n450,
 vu
 n452,
 vu
 n454,
 vi
 n456,
 AV.list
 0
 1
 es458,
 vbool
 b460,
 AV.list
 0
 2
 es462]])
 p922.fst)
 fun
 _ ↦
 Ω
 (chk
 p922.fst.ver
 0)
 fun
 _ ↦
 Ω
 (uncons?
 p922.fst.es)
 fun
 p925 ↦
 Ω
 (nil?
 p925.snd)
 fun
 _ ↦
 Ω
 (uncons?
 p925.fst)
 fun
 p927 ↦
 Ω
 (AV.int?
 υ
 p927.fst)
 fun
 _ ↦
 Ω
 (uncons?
 p927.snd)
 fun
 p929 ↦
 Ω
 (AV.bool?
 p929.fst)
 fun
 _ ↦
 Ω
 (uncons?
 p929.snd)
 fun
 p931 ↦
 Ω
 (AV.list?
 2
 p931.fst)
 fun
 _ ↦
 Ω
 (uncons?
 p931.snd)
 fun
 p933 ↦
 Ω
 (AV.int?
 υ
 p933.fst)
 fun
 _ ↦
 Ω
 (uncons?
 p933.snd)
 fun
 p935 ↦
 Ω
 (AV.int?
 υ
 p935.fst)
 fun
 _ ↦
 Ω
 (uncons?
 p935.snd)
 fun
 p937 ↦
 Ω
 (AV.int?
 υ
 p937.fst)
 fun
 _ ↦
 Ω
 (uncons?
 p937.snd)
 fun
 p939 ↦
 Ω
 (AV.int?
 υ
 p939.fst)
 fun
 _ ↦
 Ω
 (uncons?
 p939.snd)
 fun
 p941 ↦
 Ω
 (AV.int?
 υ
 p941.fst)
 fun
 _ ↦
 Ω
 (uncons?
 p941.snd)
 fun
 p943 ↦
 Ω
 (AV.int?
 ı
 p943.fst)
 fun
 _ ↦
 Ω
 (uncons?
 p943.snd)
 fun
 p945 ↦
 Ω
 (AV.list?
 1
 p945.fst)
 fun
 _ ↦
 Ω
 (uncons?
 p945.snd)
 fun
 p947 ↦
 Ω
 (AV.bool?
 p947.fst)
 fun
 _ ↦
 Ω
 (uncons?
 p947.snd)
 fun
 p949 ↦
 Ω
 (AV.list?
 2
 p949.fst)
 fun
 _ ↦
 Ω
 (nil?
 p949.snd)
 fun
 _ ↦
 Ω
 (uncons?
 p922.snd)
 fun
 p952 ↦
 Ω
 (obIs
 (Ob.mk
 OK.box
 41
 12
 0
 [[vu
 n470,
 vbool
 b472,
 AV.list
 0
 2
 es474,
 vu
 n476,
 vu
 n478,
 vu
 n480,
 vu
 n482,
 vu
 n484,
 vi
 n486,
 AV.list
 0
 1
 es488,
 vbool
 b490,
 AV.list
 0
 2
 es492]])
 p952.fst)
 fun
 _ ↦
 Ω
 (chk
 p952.fst.ver
 0)
 fun
 _ ↦
 Ω
 (uncons?
 p952.fst.es)
 fun
 p955 ↦
 Ω
 (nil?
 p955.snd)
 fun
 _ ↦
 Ω
 (uncons?
 p955.fst)
 fun
 p957 ↦
 Ω
 (AV.int?
 υ
 p957.fst)
 fun
 _ ↦
 Ω
 (uncons?
 p957.snd)
 fun
 p959 ↦
 Ω
 (AV.bool?
 p959.fst)
 fun
 _ ↦
 Ω
 (uncons?
 p959.snd)
 fun
 p961 ↦
 Ω
 (AV.list?
 2
 p961.fst)
 fun
 _ ↦
 Ω
 (uncons?
 p961.snd)
 fun
 p963 ↦
 Ω
 (AV.int?
 υ
 p963.fst)
 fun
 _ ↦
 Ω
 (uncons?
 p963.snd)
 fun
 p965 ↦
 Ω
 (AV.int?
 υ
 p965.fst)
 fun
 _ ↦
 Ω
 (uncons?
 p965.snd)
 fun
 p967 ↦
 Ω
 (AV.int?
 υ
 p967.fst)
 fun
 _ ↦
 Ω
 (uncons?
 p967.snd)
 fun
 p969 ↦
 Ω
 (AV.int?
 υ
 p969.fst)
 fun
 _ ↦
 Ω
 (uncons?
 p969.snd)
 fun
 p971 ↦
 Ω
 (AV.int?
 υ
 p971.fst)
 fun
 _ ↦
 Ω
 (uncons?
 p971.snd)
 fun
 p973 ↦
 Ω
 (AV.int?
 ı
 p973.fst)
 fun
 _ ↦
 Ω
 (uncons?
 p973.snd)
 fun
 p975 ↦
 Ω
 (AV.list?
 1
 p975.fst)
 fun
 _ ↦
 Ω
 (uncons?
 p975.snd)
 fun
 p977 ↦
 Ω
 (AV.bool?
 p977.fst)
 fun
 _ ↦
 Ω
 (uncons?
 p977.snd)
 fun
 p979 ↦
 Ω
 (AV.list?
 2
 p979.fst)
 fun
 _ ↦
 Ω
 (nil?
 p979.snd)
 fun
 _ ↦
 Ω
 (uncons?
 p952.snd)
 fun
 p982 ↦
 Ω
 (obIs
 (Ob.mk
 OK.box
 41
 12
 0
 [[vu
 n500,
 vbool
 b502,
 AV.list
 0
 2
 es504,
 vu
 n506,
 vu
 n508,
 vu
 n510,
 vu
 n512,
 vu
 n514,
 vi
 n516,
 AV.list
 0
 1
 es518,
 vbool
 b520,
 AV.list
 0
 2
 es522]])
 p982.fst)
 fun
 _ ↦
 Ω
 (chk
 p982.fst.ver
 0)
 fun
 _ ↦
 Ω
 (uncons?
 p982.fst.es)
 fun
 p985 ↦
 Ω
 (nil?
 p985.snd)
 fun
 _ ↦
 Ω
 (uncons?
 p985.fst)
 fun
 p987 ↦
 Ω
 (AV.int?
 υ
 p987.fst)
 fun
 _ ↦
 Ω
 (uncons?
 p987.snd)
 fun
 p989 ↦
 Ω
 (AV.bool?
 p989.fst)
 fun
 _ ↦
 Ω
 (uncons?
 p989.snd)
 fun
 p991 ↦
 Ω
 (AV.list?
 2
 p991.fst)
 fun
 _ ↦
 Ω
 (uncons?
 p991.snd)
 fun
 p993 ↦
 Ω
 (AV.int?
 υ
 p993.fst)
 fun
 _ ↦
 Ω
 (uncons?
 p993.snd)
 fun
 p995 ↦
 Ω
 (AV.int?
 υ
 p995.fst)
 fun
 _ ↦
 Ω
 (uncons?
 p995.snd)
 fun
 p997 ↦
 Ω
 (AV.int?
 υ
 p997.fst)
 fun
 _ ↦
 Ω
 (uncons?
 p997.snd)
 fun
 p999 ↦
 Ω
 (AV.int?
 υ
 p999.fst)
 fun
 _ ↦
 Ω
 (uncons?
 p999.snd)
 fun
 p1001 ↦
 Ω
 (AV.int?
 υ
 p1001.fst)
 fun
 _ ↦
 Ω
 (uncons?
 p1001.snd)
 fun
 p1003 ↦
 Ω
 (AV.int?
 ı
 p1003.fst)
 fun
 _ ↦
 Ω
 (uncons?
 p1003.snd)
 fun
 p1005 ↦
 Ω
 (AV.list?
 1
 p1005.fst)
 fun
 _ ↦
 Ω
 (uncons?
 p1005.snd)
 fun
 p1007 ↦
 Ω
 (AV.bool?
 p1007.fst)
 fun
 _ ↦
 Ω
 (uncons?
 p1007.snd)
 fun
 p1009 ↦
 Ω
 (AV.list?
 2
 p1009.fst)
 fun
 _ ↦
 Ω
 (nil?
 p1009.snd)
 fun
 _ ↦
 Ω
 (nil?
 p982.snd)
 fun
 _ ↦
 some
 (Out.ret
 (vbool
 b794),
 [])
 else none
theorem f3:∀(d0 d1 d2 d3 d4 v5 v6 v7 v8 v9 v10:Int) (v11:List (List AV)) (v12:Bool) (v13:List (List AV)) (x14 x15 x16 x17 x18 x19:Int) (x20 x21:List (List AV)) (x22:Bool) (by23:Int) (proof24:List (List AV)) (r25 r26 r27:Int) (s28:ByteArray) (at29 c30:Int),E cx (Key.fn 3) [AV.agg [vu d0,vu d1,vu d2,vu d3,vu d4],AV.agg [vu v5,vu v6,vu v7,vu v8,vu v9,vi v10,AV.list 0 1 v11,vbool v12,AV.list 0 2 v13],AV.agg [vi x14,vi x15,vi x16,vi x17,vi x18,vi x19,AV.list 0 1 x20,AV.list 0 1 x21,vbool x22],vi by23,AV.list 0 1 proof24,AV.agg [vu r25,vu r26,vu r27],vs s28,vi at29,vb c30] []=if 0≤if 40<((ℓ v11):Int) then 40 else((ℓ v11):Int) then if(if 40<((ℓ v11):Int) then 40 else((ℓ v11):Int))≤((ℓ v11):Int) then if 0≤if 40<((ℓ v13):Int) then 40 else((ℓ v13):Int) then if(if 40<((ℓ v13):Int) then 40 else((ℓ v13):Int))≤((ℓ v13):Int) then Ω (E cx (Key.fn 6) [AV.agg [vi x14,vi x15,vi x16,vi x17,vi x18,vi x19,AV.list 0 1 x20,AV.list 0 1 x21,vbool x22]] []) fun r31↦Ω (ret1 r31) fun v32↦Ω (AV.cells? v32) fun cs33↦Ω (uncons? cs33) fun p34↦Ω (AV.int? υ p34.fst) fun n35↦Ω (uncons? p34.snd) fun p36↦Ω (AV.int? υ p36.fst) fun n37↦Ω (uncons? p36.snd) fun p38↦Ω (AV.int? υ p38.fst) fun n39↦Ω (uncons? p38.snd) fun p40↦Ω (AV.int? υ p40.fst) fun n41↦Ω (uncons? p40.snd) fun p42↦Ω (AV.int? υ p42.fst) fun n43↦Ω (uncons? p42.snd) fun p44↦Ω (AV.int? ı p44.fst) fun n45↦Ω (uncons? p44.snd) fun p46↦Ω (AV.list? 1 p46.fst) fun es47↦Ω (uncons? p46.snd) fun p48↦Ω (AV.bool? p48.fst) fun b49↦Ω (uncons? p48.snd) fun p50↦Ω (AV.list? 2 p50.fst) fun es51↦Ω (nil? p50.snd) fun _↦Ω (E cx (Key.fn 7) [AV.agg [vi x14,vi x15,vi x16,vi x17,vi x18,vi x19,AV.list 0 1 x20,AV.list 0 1 x21,vbool x22],vi by23,AV.list 0 1 proof24] []) fun r53↦Ω (ret1 r53) fun v54↦Ω (AV.cells? v54) fun cs55↦Ω (uncons? cs55) fun p56↦Ω (AV.int? υ p56.fst) fun n57↦Ω (uncons? p56.snd) fun p58↦Ω (AV.bool? p58.fst) fun b59↦Ω (uncons? p58.snd) fun p60↦Ω (AV.list? 2 p60.fst) fun es61↦Ω (uncons? p60.snd) fun p62↦Ω (AV.int? υ p62.fst) fun n63↦Ω (uncons? p62.snd) fun p64↦Ω (AV.int? υ p64.fst) fun n65↦Ω (uncons? p64.snd) fun p66↦Ω (AV.int? υ p66.fst) fun n67↦Ω (uncons? p66.snd) fun p68↦Ω (AV.int? υ p68.fst) fun n69↦Ω (uncons? p68.snd) fun p70↦Ω (AV.int? υ p70.fst) fun n71↦Ω (uncons? p70.snd) fun p72↦Ω (AV.int? ı p72.fst) fun n73↦Ω (uncons? p72.snd) fun p74↦Ω (AV.list? 1 p74.fst) fun es75↦Ω (uncons? p74.snd) fun p76↦Ω (AV.bool? p76.fst) fun b77↦Ω (uncons? p76.snd) fun p78↦Ω (AV.list? 2 p78.fst) fun es79↦Ω (nil? p78.snd) fun _↦Ω (E cx (Key.loop 3 [true,true,true,true,true,true,true,true,true,true,true,false,true,false]) [vbool false,vi 0,vs s28,vi at29,vb c30,AV.ptr 0 0 0 0,AV.ptr 3 0 0 0,vbool true,AV.ptr 5 0 0 0,AV.ptr 6 0 0 0,AV.ptr 7 0 0 0,AV.ptr 8 0 0 0,AV.list 0 9 [[vu v5,vu v6,vu v7,vu v8,vu v9,vi v10,AV.list 0 1 (List.drop 0 (List.take (τ (if 40<((ℓ v11):Int) then 40 else((ℓ v11):Int))) v11)),vbool v12,AV.list 0 2 (List.drop 0 (List.take (τ (if 40<((ℓ v13):Int) then 40 else((ℓ v13):Int))) v13))],[vu n35,vu n37,vu n39,vu n41,vu n43,vi n45,AV.list 0 1 es47,vbool b49,AV.list 0 2 es51]],vi 2] [Ob.mk OK.box 24 5 0 [[vu d0,vu d1,vu d2,vu d3,vu d4]],Ob.mk OK.box 32 9 0 [[vu v5,vu v6,vu v7,vu v8,vu v9,vi v10,AV.list 0 1 v11,vbool v12,AV.list 0 2 v13]],Ob.mk OK.box 35 9 0 [[vi x14,vi x15,vi x16,vi x17,vi x18,vi x19,AV.list 0 1 x20,AV.list 0 1 x21,vbool x22]],Ob.mk OK.box 37 3 0 [[vu r25,vu r26,vu r27]],Ob.mk OK.box 32 9 0 [[vu v5,vu v6,vu v7,vu v8,vu v9,vi v10,AV.list 0 1 (List.drop 0 (List.take (τ (if 40<((ℓ v11):Int) then 40 else((ℓ v11):Int))) v11)),vbool v12,AV.list 0 2 (List.drop 0 (List.take (τ (if 40<((ℓ v13):Int) then 40 else((ℓ v13):Int))) v13))]],Ob.mk OK.box 32 9 0 [[vu n35,vu n37,vu n39,vu n41,vu n43,vi n45,AV.list 0 1 es47,vbool b49,AV.list 0 2 es51]],Ob.mk OK.box 41 12 0 [[vu n57,vbool b59,AV.list 0 2 es61,vu n63,vu n65,vu n67,vu n69,vu n71,vi n73,AV.list 0 1 es75,vbool b77,AV.list 0 2 es79]],Ob.mk OK.box 41 12 0 [[vu n57,vbool b59,AV.list 0 2 es61,vu v5,vu v6,vu v7,vu v8,vu v9,vi v10,AV.list 0 1 (List.drop 0 (List.take (τ (if 40<((ℓ v11):Int) then 40 else((ℓ v11):Int))) v11)),vbool v12,AV.list 0 2 (List.drop 0 (List.take (τ (if 40<((ℓ v13):Int) then 40 else((ℓ v13):Int))) v13))]],Ob.mk OK.box 41 12 0 [[vu n57,vbool v12,AV.list 0 2 (List.drop 0 (List.take (τ (if 40<((ℓ v13):Int) then 40 else((ℓ v13):Int))) v13)),vu n63,vu n65,vu n67,vu n69,vu n71,vi n73,AV.list 0 1 es75,vbool b77,AV.list 0 2 es79]]]) fun r81↦Ω (asJump r81) fun j82↦bif JX.is j82.fst (JX.exit 0) then Ω (uncons? j82.snd.fst) fun p83↦Ω (AV.bool? p83.fst) fun b84↦Ω (uncons? p83.snd) fun p85↦Ω (AV.int? ı p85.fst) fun _↦Ω (nil? p85.snd) fun _↦Ω (uncons? j82.snd.snd) fun p88↦Ω (obIs (Ob.mk OK.box 24 5 0 [[vu d0,vu d1,vu d2,vu d3,vu d4]]) p88.fst) fun _↦Ω (chk p88.fst.ver 0) fun _↦Ω (uncons? p88.fst.es) fun p91↦Ω (nil? p91.snd) fun _↦Ω (uncons? p91.fst) fun p93↦Ω (AV.int? υ p93.fst) fun n94↦Ω (uncons? p93.snd) fun p95↦Ω (AV.int? υ p95.fst) fun n96↦Ω (uncons? p95.snd) fun p97↦Ω (AV.int? υ p97.fst) fun n98↦Ω (uncons? p97.snd) fun p99↦Ω (AV.int? υ p99.fst) fun n100↦Ω (uncons? p99.snd) fun p101↦Ω (AV.int? υ p101.fst) fun n102↦Ω (nil? p101.snd) fun _↦Ω (uncons? p88.snd) fun p104↦Ω (obIs (Ob.mk OK.box 32 9 0 [[vu v5,vu v6,vu v7,vu v8,vu v9,vi v10,AV.list 0 1 v11,vbool v12,AV.list 0 2 v13]]) p104.fst) fun _↦Ω (chk p104.fst.ver 0) fun _↦Ω (uncons? p104.fst.es) fun p107↦Ω (nil? p107.snd) fun _↦Ω (uncons? p107.fst) fun p109↦Ω (AV.int? υ p109.fst) fun n110↦Ω (uncons? p109.snd) fun p111↦Ω (AV.int? υ p111.fst) fun n112↦Ω (uncons? p111.snd) fun p113↦Ω (AV.int? υ p113.fst) fun n114↦Ω (uncons? p113.snd) fun p115↦Ω (AV.int? υ p115.fst) fun n116↦Ω (uncons? p115.snd) fun p117↦Ω (AV.int? υ p117.fst) fun n118↦Ω (uncons? p117.snd) fun p119↦Ω (AV.int? ı p119.fst) fun n120↦Ω (uncons? p119.snd) fun p121↦Ω (AV.list? 1 p121.fst) fun es122↦Ω (uncons? p121.snd) fun p123↦Ω (AV.bool? p123.fst) fun b124↦Ω (uncons? p123.snd) fun p125↦Ω (AV.list? 2 p125.fst) fun es126↦Ω (nil? p125.snd) fun _↦Ω (uncons? p104.snd) fun p128↦Ω (obIs (Ob.mk OK.box 35 9 0 [[vi x14,vi x15,vi x16,vi x17,vi x18,vi x19,AV.list 0 1 x20,AV.list 0 1 x21,vbool x22]]) p128.fst) fun _↦Ω (chk p128.fst.ver 0) fun _↦Ω (uncons? p128.fst.es) fun p131↦Ω (nil? p131.snd) fun _↦Ω (uncons? p131.fst) fun p133↦Ω (AV.int? ı p133.fst) fun n134↦Ω (uncons? p133.snd) fun p135↦Ω (AV.int? ı p135.fst) fun n136↦Ω (uncons? p135.snd) fun p137↦Ω (AV.int? ı p137.fst) fun n138↦Ω (uncons? p137.snd) fun p139↦Ω (AV.int? ı p139.fst) fun n140↦Ω (uncons? p139.snd) fun p141↦Ω (AV.int? ı p141.fst) fun n142↦Ω (uncons? p141.snd) fun p143↦Ω (AV.int? ı p143.fst) fun n144↦Ω (uncons? p143.snd) fun p145↦Ω (AV.list? 1 p145.fst) fun es146↦Ω (uncons? p145.snd) fun p147↦Ω (AV.list? 1 p147.fst) fun es148↦Ω (uncons? p147.snd) fun p149↦Ω (AV.bool? p149.fst) fun b150↦Ω (nil? p149.snd) fun _↦Ω (uncons? p128.snd) fun p152↦Ω (obIs (Ob.mk OK.box 37 3 0 [[vu r25,vu r26,vu r27]]) p152.fst) fun _↦Ω (chk p152.fst.ver 0) fun _↦Ω (uncons? p152.fst.es) fun p155↦Ω (nil? p155.snd) fun _↦Ω (uncons? p155.fst) fun p157↦Ω (AV.int? υ p157.fst) fun n158↦Ω (uncons? p157.snd) fun p159↦Ω (AV.int? υ p159.fst) fun n160↦Ω (uncons? p159.snd) fun p161↦Ω (AV.int? υ p161.fst) fun n162↦Ω (nil? p161.snd) fun _↦Ω (uncons? p152.snd) fun p164↦Ω (obIs (Ob.mk OK.box 32 9 0 [[vu v5,vu v6,vu v7,vu v8,vu v9,vi v10,AV.list 0 1 (List.drop 0 (List.take (τ (if 40<((ℓ v11):Int) then 40 else((ℓ v11):Int))) v11)),vbool v12,AV.list 0 2 (List.drop 0 (List.take (τ (if 40<((ℓ v13):Int) then 40 else((ℓ v13):Int))) v13))]]) p164.fst) fun _↦Ω (chk p164.fst.ver 0) fun _↦Ω (uncons? p164.fst.es) fun p167↦Ω (nil? p167.snd) fun _↦Ω (uncons? p167.fst) fun p169↦Ω (AV.int? υ p169.fst) fun n170↦Ω (uncons? p169.snd) fun p171↦Ω (AV.int? υ p171.fst) fun n172↦Ω (uncons? p171.snd) fun p173↦Ω (AV.int? υ p173.fst) fun n174↦Ω (uncons? p173.snd) fun p175↦Ω (AV.int? υ p175.fst) fun n176↦Ω (uncons? p175.snd) fun p177↦Ω (AV.int? υ p177.fst) fun n178↦Ω (uncons? p177.snd) fun p179↦Ω (AV.int? ı p179.fst) fun n180↦Ω (uncons? p179.snd) fun p181↦Ω (AV.list? 1 p181.fst) fun es182↦Ω (uncons? p181.snd) fun p183↦Ω (AV.bool? p183.fst) fun b184↦Ω (uncons? p183.snd) fun p185↦Ω (AV.list? 2 p185.fst) fun es186↦Ω (nil? p185.snd) fun _↦Ω (uncons? p164.snd) fun p188↦Ω (obIs (Ob.mk OK.box 32 9 0 [[vu n35,vu n37,vu n39,vu n41,vu n43,vi n45,AV.list 0 1 es47,vbool b49,AV.list 0 2 es51]]) p188.fst) fun _↦Ω (chk p188.fst.ver 0) fun _↦Ω (uncons? p188.fst.es) fun p191↦Ω (nil? p191.snd) fun _↦Ω (uncons? p191.fst) fun p193↦Ω (AV.int? υ p193.fst) fun n194↦Ω (uncons? p193.snd) fun p195↦Ω (AV.int? υ p195.fst) fun n196↦Ω (uncons? p195.snd) fun p197↦Ω (AV.int? υ p197.fst) fun n198↦Ω (uncons? p197.snd) fun p199↦Ω (AV.int? υ p199.fst) fun n200↦Ω (uncons? p199.snd) fun p201↦Ω (AV.int? υ p201.fst) fun n202↦Ω (uncons? p201.snd) fun p203↦Ω (AV.int? ı p203.fst) fun n204↦Ω (uncons? p203.snd) fun p205↦Ω (AV.list? 1 p205.fst) fun es206↦Ω (uncons? p205.snd) fun p207↦Ω (AV.bool? p207.fst) fun b208↦Ω (uncons? p207.snd) fun p209↦Ω (AV.list? 2 p209.fst) fun es210↦Ω (nil? p209.snd) fun _↦Ω (uncons? p188.snd) fun p212↦Ω (obIs (Ob.mk OK.box 41 12 0 [[vu n57,vbool b59,AV.list 0 2 es61,vu n63,vu n65,vu n67,vu n69,vu n71,vi n73,AV.list 0 1 es75,vbool b77,AV.list 0 2 es79]]) p212.fst) fun _↦Ω (chk p212.fst.ver 0) fun _↦Ω (uncons? p212.fst.es) fun p215↦Ω (nil? p215.snd) fun _↦Ω (uncons? p215.fst) fun p217↦Ω (AV.int? υ p217.fst) fun n218↦Ω (uncons? p217.snd) fun p219↦Ω (AV.bool? p219.fst) fun b220↦Ω (uncons? p219.snd) fun p221↦Ω (AV.list? 2 p221.fst) fun es222↦Ω (uncons? p221.snd) fun p223↦Ω (AV.int? υ p223.fst) fun n224↦Ω (uncons? p223.snd) fun p225↦Ω (AV.int? υ p225.fst) fun n226↦Ω (uncons? p225.snd) fun p227↦Ω (AV.int? υ p227.fst) fun n228↦Ω (uncons? p227.snd) fun p229↦Ω (AV.int? υ p229.fst) fun n230↦Ω (uncons? p229.snd) fun p231↦Ω (AV.int? υ p231.fst) fun n232↦Ω (uncons? p231.snd) fun p233↦Ω (AV.int? ı p233.fst) fun n234↦Ω (uncons? p233.snd) fun p235↦Ω (AV.list? 1 p235.fst) fun es236↦Ω (uncons? p235.snd) fun p237↦Ω (AV.bool? p237.fst) fun b238↦Ω (uncons? p237.snd) fun p239↦Ω (AV.list? 2 p239.fst) fun es240↦Ω (nil? p239.snd) fun _↦Ω (uncons? p212.snd) fun p242↦Ω (obIs (Ob.mk OK.box 41 12 0 [[vu n57,vbool b59,AV.list 0 2 es61,vu v5,vu v6,vu v7,vu v8,vu v9,vi v10,AV.list 0 1 (List.drop 0 (List.take (τ (if 40<((ℓ v11):Int) then 40 else((ℓ v11):Int))) v11)),vbool v12,AV.list 0 2 (List.drop 0 (List.take (τ (if 40<((ℓ v13):Int) then 40 else((ℓ v13):Int))) v13))]]) p242.fst) fun _↦Ω (chk p242.fst.ver 0) fun _↦Ω (uncons? p242.fst.es) fun p245↦Ω (nil? p245.snd) fun _↦Ω (uncons? p245.fst) fun p247↦Ω (AV.int? υ p247.fst) fun n248↦Ω (uncons? p247.snd) fun p249↦Ω (AV.bool? p249.fst) fun b250↦Ω (uncons? p249.snd) fun p251↦Ω (AV.list? 2 p251.fst) fun es252↦Ω (uncons? p251.snd) fun p253↦Ω (AV.int? υ p253.fst) fun n254↦Ω (uncons? p253.snd) fun p255↦Ω (AV.int? υ p255.fst) fun n256↦Ω (uncons? p255.snd) fun p257↦Ω (AV.int? υ p257.fst) fun n258↦Ω (uncons? p257.snd) fun p259↦Ω (AV.int? υ p259.fst) fun n260↦Ω (uncons? p259.snd) fun p261↦Ω (AV.int? υ p261.fst) fun n262↦Ω (uncons? p261.snd) fun p263↦Ω (AV.int? ı p263.fst) fun n264↦Ω (uncons? p263.snd) fun p265↦Ω (AV.list? 1 p265.fst) fun es266↦Ω (uncons? p265.snd) fun p267↦Ω (AV.bool? p267.fst) fun b268↦Ω (uncons? p267.snd) fun p269↦Ω (AV.list? 2 p269.fst) fun es270↦Ω (nil? p269.snd) fun _↦Ω (uncons? p242.snd) fun p272↦Ω (obIs (Ob.mk OK.box 41 12 0 [[vu n57,vbool v12,AV.list 0 2 (List.drop 0 (List.take (τ (if 40<((ℓ v13):Int) then 40 else((ℓ v13):Int))) v13)),vu n63,vu n65,vu n67,vu n69,vu n71,vi n73,AV.list 0 1 es75,vbool b77,AV.list 0 2 es79]]) p272.fst) fun _↦Ω (chk p272.fst.ver 0) fun _↦Ω (uncons? p272.fst.es) fun p275↦Ω (nil? p275.snd) fun _↦Ω (uncons? p275.fst) fun p277↦Ω (AV.int? υ p277.fst) fun n278↦Ω (uncons? p277.snd) fun p279↦Ω (AV.bool? p279.fst) fun b280↦Ω (uncons? p279.snd) fun p281↦Ω (AV.list? 2 p281.fst) fun es282↦Ω (uncons? p281.snd) fun p283↦Ω (AV.int? υ p283.fst) fun n284↦Ω (uncons? p283.snd) fun p285↦Ω (AV.int? υ p285.fst) fun n286↦Ω (uncons? p285.snd) fun p287↦Ω (AV.int? υ p287.fst) fun n288↦Ω (uncons? p287.snd) fun p289↦Ω (AV.int? υ p289.fst) fun n290↦Ω (uncons? p289.snd) fun p291↦Ω (AV.int? υ p291.fst) fun n292↦Ω (uncons? p291.snd) fun p293↦Ω (AV.int? ı p293.fst) fun n294↦Ω (uncons? p293.snd) fun p295↦Ω (AV.list? 1 p295.fst) fun es296↦Ω (uncons? p295.snd) fun p297↦Ω (AV.bool? p297.fst) fun b298↦Ω (uncons? p297.snd) fun p299↦Ω (AV.list? 2 p299.fst) fun es300↦Ω (nil? p299.snd) fun _↦Ω (nil? p272.snd) fun _↦Ω (E cx (Key.loop 3 [true,true,true,true,true,true,true,true,true,true,true,true,false,true,false]) [vbool b84,vi 0,vs s28,vi at29,vb c30,AV.ptr 0 0 0 0,AV.ptr 3 0 0 0,vbool true,AV.ptr 5 0 0 0,AV.ptr 6 0 0 0,AV.list 0 12 [[vu n218,vbool b220,AV.list 0 2 es222,vu n224,vu n226,vu n228,vu n230,vu n232,vi n234,AV.list 0 1 es236,vbool b238,AV.list 0 2 es240],[vu n248,vbool b250,AV.list 0 2 es252,vu n254,vu n256,vu n258,vu n260,vu n262,vi n264,AV.list 0 1 es266,vbool b268,AV.list 0 2 es270],[vu n278,vbool b280,AV.list 0 2 es282,vu n284,vu n286,vu n288,vu n290,vu n292,vi n294,AV.list 0 1 es296,vbool b298,AV.list 0 2 es300]],vi 3] [Ob.mk OK.box 24 5 0 [[vu n94,vu n96,vu n98,vu n100,vu n102]],Ob.mk OK.box 32 9 0 [[vu n110,vu n112,vu n114,vu n116,vu n118,vi n120,AV.list 0 1 es122,vbool b124,AV.list 0 2 es126]],Ob.mk OK.box 35 9 0 [[vi n134,vi n136,vi n138,vi n140,vi n142,vi n144,AV.list 0 1 es146,AV.list 0 1 es148,vbool b150]],Ob.mk OK.box 37 3 0 [[vu n158,vu n160,vu n162]],Ob.mk OK.box 32 9 0 [[vu n170,vu n172,vu n174,vu n176,vu n178,vi n180,AV.list 0 1 es182,vbool b184,AV.list 0 2 es186]],Ob.mk OK.box 32 9 0 [[vu n194,vu n196,vu n198,vu n200,vu n202,vi n204,AV.list 0 1 es206,vbool b208,AV.list 0 2 es210]],Ob.mk OK.box 41 12 0 [[vu n218,vbool b220,AV.list 0 2 es222,vu n224,vu n226,vu n228,vu n230,vu n232,vi n234,AV.list 0 1 es236,vbool b238,AV.list 0 2 es240]],Ob.mk OK.box 41 12 0 [[vu n248,vbool b250,AV.list 0 2 es252,vu n254,vu n256,vu n258,vu n260,vu n262,vi n264,AV.list 0 1 es266,vbool b268,AV.list 0 2 es270]],Ob.mk OK.box 41 12 0 [[vu n278,vbool b280,AV.list 0 2 es282,vu n284,vu n286,vu n288,vu n290,vu n292,vi n294,AV.list 0 1 es296,vbool b298,AV.list 0 2 es300]]]) fun r303↦Ω (asJump r303) fun j304↦bif JX.is j304.fst (JX.exit 2) then Ω (uncons? j304.snd.fst) fun p305↦Ω (AV.bool? p305.fst) fun b306↦Ω (uncons? p305.snd) fun p307↦Ω (AV.int? ı p307.fst) fun _↦Ω (nil? p307.snd) fun _↦Ω (uncons? j304.snd.snd) fun p310↦Ω (obIs (Ob.mk OK.box 24 5 0 [[vu n94,vu n96,vu n98,vu n100,vu n102]]) p310.fst) fun _↦Ω (chk p310.fst.ver 0) fun _↦Ω (uncons? p310.fst.es) fun p313↦Ω (nil? p313.snd) fun _↦Ω (uncons? p313.fst) fun p315↦Ω (AV.int? υ p315.fst) fun n316↦Ω (uncons? p315.snd) fun p317↦Ω (AV.int? υ p317.fst) fun n318↦Ω (uncons? p317.snd) fun p319↦Ω (AV.int? υ p319.fst) fun n320↦Ω (uncons? p319.snd) fun p321↦Ω (AV.int? υ p321.fst) fun n322↦Ω (uncons? p321.snd) fun p323↦Ω (AV.int? υ p323.fst) fun n324↦Ω (nil? p323.snd) fun _↦Ω (uncons? p310.snd) fun p326↦Ω (obIs (Ob.mk OK.box 32 9 0 [[vu n110,vu n112,vu n114,vu n116,vu n118,vi n120,AV.list 0 1 es122,vbool b124,AV.list 0 2 es126]]) p326.fst) fun _↦Ω (chk p326.fst.ver 0) fun _↦Ω (uncons? p326.fst.es) fun p329↦Ω (nil? p329.snd) fun _↦Ω (uncons? p329.fst) fun p331↦Ω (AV.int? υ p331.fst) fun n332↦Ω (uncons? p331.snd) fun p333↦Ω (AV.int? υ p333.fst) fun n334↦Ω (uncons? p333.snd) fun p335↦Ω (AV.int? υ p335.fst) fun n336↦Ω (uncons? p335.snd) fun p337↦Ω (AV.int? υ p337.fst) fun n338↦Ω (uncons? p337.snd) fun p339↦Ω (AV.int? υ p339.fst) fun n340↦Ω (uncons? p339.snd) fun p341↦Ω (AV.int? ı p341.fst) fun n342↦Ω (uncons? p341.snd) fun p343↦Ω (AV.list? 1 p343.fst) fun es344↦Ω (uncons? p343.snd) fun p345↦Ω (AV.bool? p345.fst) fun b346↦Ω (uncons? p345.snd) fun p347↦Ω (AV.list? 2 p347.fst) fun es348↦Ω (nil? p347.snd) fun _↦Ω (uncons? p326.snd) fun p350↦Ω (obIs (Ob.mk OK.box 35 9 0 [[vi n134,vi n136,vi n138,vi n140,vi n142,vi n144,AV.list 0 1 es146,AV.list 0 1 es148,vbool b150]]) p350.fst) fun _↦Ω (chk p350.fst.ver 0) fun _↦Ω (uncons? p350.fst.es) fun p353↦Ω (nil? p353.snd) fun _↦Ω (uncons? p353.fst) fun p355↦Ω (AV.int? ı p355.fst) fun n356↦Ω (uncons? p355.snd) fun p357↦Ω (AV.int? ı p357.fst) fun n358↦Ω (uncons? p357.snd) fun p359↦Ω (AV.int? ı p359.fst) fun n360↦Ω (uncons? p359.snd) fun p361↦Ω (AV.int? ı p361.fst) fun n362↦Ω (uncons? p361.snd) fun p363↦Ω (AV.int? ı p363.fst) fun n364↦Ω (uncons? p363.snd) fun p365↦Ω (AV.int? ı p365.fst) fun n366↦Ω (uncons? p365.snd) fun p367↦Ω (AV.list? 1 p367.fst) fun es368↦Ω (uncons? p367.snd) fun p369↦Ω (AV.list? 1 p369.fst) fun es370↦Ω (uncons? p369.snd) fun p371↦Ω (AV.bool? p371.fst) fun b372↦Ω (nil? p371.snd) fun _↦Ω (uncons? p350.snd) fun p374↦Ω (obIs (Ob.mk OK.box 37 3 0 [[vu n158,vu n160,vu n162]]) p374.fst) fun _↦Ω (chk p374.fst.ver 0) fun _↦Ω (uncons? p374.fst.es) fun p377↦Ω (nil? p377.snd) fun _↦Ω (uncons? p377.fst) fun p379↦Ω (AV.int? υ p379.fst) fun n380↦Ω (uncons? p379.snd) fun p381↦Ω (AV.int? υ p381.fst) fun n382↦Ω (uncons? p381.snd) fun p383↦Ω (AV.int? υ p383.fst) fun n384↦Ω (nil? p383.snd) fun _↦Ω (uncons? p374.snd) fun p386↦Ω (obIs (Ob.mk OK.box 32 9 0 [[vu n170,vu n172,vu n174,vu n176,vu n178,vi n180,AV.list 0 1 es182,vbool b184,AV.list 0 2 es186]]) p386.fst) fun _↦Ω (chk p386.fst.ver 0) fun _↦Ω (uncons? p386.fst.es) fun p389↦Ω (nil? p389.snd) fun _↦Ω (uncons? p389.fst) fun p391↦Ω (AV.int? υ p391.fst) fun n392↦Ω (uncons? p391.snd) fun p393↦Ω (AV.int? υ p393.fst) fun n394↦Ω (uncons? p393.snd) fun p395↦Ω (AV.int? υ p395.fst) fun n396↦Ω (uncons? p395.snd) fun p397↦Ω (AV.int? υ p397.fst) fun n398↦Ω (uncons? p397.snd) fun p399↦Ω (AV.int? υ p399.fst) fun n400↦Ω (uncons? p399.snd) fun p401↦Ω (AV.int? ı p401.fst) fun n402↦Ω (uncons? p401.snd) fun p403↦Ω (AV.list? 1 p403.fst) fun es404↦Ω (uncons? p403.snd) fun p405↦Ω (AV.bool? p405.fst) fun b406↦Ω (uncons? p405.snd) fun p407↦Ω (AV.list? 2 p407.fst) fun es408↦Ω (nil? p407.snd) fun _↦Ω (uncons? p386.snd) fun p410↦Ω (obIs (Ob.mk OK.box 32 9 0 [[vu n194,vu n196,vu n198,vu n200,vu n202,vi n204,AV.list 0 1 es206,vbool b208,AV.list 0 2 es210]]) p410.fst) fun _↦Ω (chk p410.fst.ver 0) fun _↦Ω (uncons? p410.fst.es) fun p413↦Ω (nil? p413.snd) fun _↦Ω (uncons? p413.fst) fun p415↦Ω (AV.int? υ p415.fst) fun n416↦Ω (uncons? p415.snd) fun p417↦Ω (AV.int? υ p417.fst) fun n418↦Ω (uncons? p417.snd) fun p419↦Ω (AV.int? υ p419.fst) fun n420↦Ω (uncons? p419.snd) fun p421↦Ω (AV.int? υ p421.fst) fun n422↦Ω (uncons? p421.snd) fun p423↦Ω (AV.int? υ p423.fst) fun n424↦Ω (uncons? p423.snd) fun p425↦Ω (AV.int? ı p425.fst) fun n426↦Ω (uncons? p425.snd) fun p427↦Ω (AV.list? 1 p427.fst) fun es428↦Ω (uncons? p427.snd) fun p429↦Ω (AV.bool? p429.fst) fun b430↦Ω (uncons? p429.snd) fun p431↦Ω (AV.list? 2 p431.fst) fun es432↦Ω (nil? p431.snd) fun _↦Ω (uncons? p410.snd) fun p434↦Ω (obIs (Ob.mk OK.box 41 12 0 [[vu n218,vbool b220,AV.list 0 2 es222,vu n224,vu n226,vu n228,vu n230,vu n232,vi n234,AV.list 0 1 es236,vbool b238,AV.list 0 2 es240]]) p434.fst) fun _↦Ω (chk p434.fst.ver 0) fun _↦Ω (uncons? p434.fst.es) fun p437↦Ω (nil? p437.snd) fun _↦Ω (uncons? p437.fst) fun p439↦Ω (AV.int? υ p439.fst) fun n440↦Ω (uncons? p439.snd) fun p441↦Ω (AV.bool? p441.fst) fun b442↦Ω (uncons? p441.snd) fun p443↦Ω (AV.list? 2 p443.fst) fun es444↦Ω (uncons? p443.snd) fun p445↦Ω (AV.int? υ p445.fst) fun n446↦Ω (uncons? p445.snd) fun p447↦Ω (AV.int? υ p447.fst) fun n448↦Ω (uncons? p447.snd) fun p449↦Ω (AV.int? υ p449.fst) fun n450↦Ω (uncons? p449.snd) fun p451↦Ω (AV.int? υ p451.fst) fun n452↦Ω (uncons? p451.snd) fun p453↦Ω (AV.int? υ p453.fst) fun n454↦Ω (uncons? p453.snd) fun p455↦Ω (AV.int? ı p455.fst) fun n456↦Ω (uncons? p455.snd) fun p457↦Ω (AV.list? 1 p457.fst) fun es458↦Ω (uncons? p457.snd) fun p459↦Ω (AV.bool? p459.fst) fun b460↦Ω (uncons? p459.snd) fun p461↦Ω (AV.list? 2 p461.fst) fun es462↦Ω (nil? p461.snd) fun _↦Ω (uncons? p434.snd) fun p464↦Ω (obIs (Ob.mk OK.box 41 12 0 [[vu n248,vbool b250,AV.list 0 2 es252,vu n254,vu n256,vu n258,vu n260,vu n262,vi n264,AV.list 0 1 es266,vbool b268,AV.list 0 2 es270]]) p464.fst) fun _↦Ω (chk p464.fst.ver 0) fun _↦Ω (uncons? p464.fst.es) fun p467↦Ω (nil? p467.snd) fun _↦Ω (uncons? p467.fst) fun p469↦Ω (AV.int? υ p469.fst) fun n470↦Ω (uncons? p469.snd) fun p471↦Ω (AV.bool? p471.fst) fun b472↦Ω (uncons? p471.snd) fun p473↦Ω (AV.list? 2 p473.fst) fun es474↦Ω (uncons? p473.snd) fun p475↦Ω (AV.int? υ p475.fst) fun n476↦Ω (uncons? p475.snd) fun p477↦Ω (AV.int? υ p477.fst) fun n478↦Ω (uncons? p477.snd) fun p479↦Ω (AV.int? υ p479.fst) fun n480↦Ω (uncons? p479.snd) fun p481↦Ω (AV.int? υ p481.fst) fun n482↦Ω (uncons? p481.snd) fun p483↦Ω (AV.int? υ p483.fst) fun n484↦Ω (uncons? p483.snd) fun p485↦Ω (AV.int? ı p485.fst) fun n486↦Ω (uncons? p485.snd) fun p487↦Ω (AV.list? 1 p487.fst) fun es488↦Ω (uncons? p487.snd) fun p489↦Ω (AV.bool? p489.fst) fun b490↦Ω (uncons? p489.snd) fun p491↦Ω (AV.list? 2 p491.fst) fun es492↦Ω (nil? p491.snd) fun _↦Ω (uncons? p464.snd) fun p494↦Ω (obIs (Ob.mk OK.box 41 12 0 [[vu n278,vbool b280,AV.list 0 2 es282,vu n284,vu n286,vu n288,vu n290,vu n292,vi n294,AV.list 0 1 es296,vbool b298,AV.list 0 2 es300]]) p494.fst) fun _↦Ω (chk p494.fst.ver 0) fun _↦Ω (uncons? p494.fst.es) fun p497↦Ω (nil? p497.snd) fun _↦Ω (uncons? p497.fst) fun p499↦Ω (AV.int? υ p499.fst) fun n500↦Ω (uncons? p499.snd) fun p501↦Ω (AV.bool? p501.fst) fun b502↦Ω (uncons? p501.snd) fun p503↦Ω (AV.list? 2 p503.fst) fun es504↦Ω (uncons? p503.snd) fun p505↦Ω (AV.int? υ p505.fst) fun n506↦Ω (uncons? p505.snd) fun p507↦Ω (AV.int? υ p507.fst) fun n508↦Ω (uncons? p507.snd) fun p509↦Ω (AV.int? υ p509.fst) fun n510↦Ω (uncons? p509.snd) fun p511↦Ω (AV.int? υ p511.fst) fun n512↦Ω (uncons? p511.snd) fun p513↦Ω (AV.int? υ p513.fst) fun n514↦Ω (uncons? p513.snd) fun p515↦Ω (AV.int? ı p515.fst) fun n516↦Ω (uncons? p515.snd) fun p517↦Ω (AV.list? 1 p517.fst) fun es518↦Ω (uncons? p517.snd) fun p519↦Ω (AV.bool? p519.fst) fun b520↦Ω (uncons? p519.snd) fun p521↦Ω (AV.list? 2 p521.fst) fun es522↦Ω (nil? p521.snd) fun _↦Ω (nil? p494.snd) fun _↦Ω (E cx (Key.fn 9) [AV.agg [vu n416,vu n418,vu n420,vu n422,vu n424,vi n426,AV.list 0 1 es428,vbool b430,AV.list 0 2 es432]] []) fun r525↦Ω (ret1 r525) fun v526↦Ω (AV.tup? v526) fun vs527↦Ω (uncons? vs527) fun p528↦Ω (AV.str? p528.fst) fun s529↦Ω (uncons? p528.snd) fun p530↦Ω (AV.int? ı p530.fst) fun _↦Ω (nil? p530.snd) fun _↦Ω (E cx (Key.fn 11) [AV.agg [vu n440,vbool b442,AV.list 0 2 es444,vu n446,vu n448,vu n450,vu n452,vu n454,vi n456,AV.list 0 1 es458,vbool b460,AV.list 0 2 es462]] []) fun r533↦Ω (ret1 r533) fun v534↦Ω (AV.tup? v534) fun vs535↦Ω (uncons? vs535) fun p536↦Ω (AV.str? p536.fst) fun s537↦Ω (uncons? p536.snd) fun p538↦Ω (AV.int? ı p538.fst) fun _↦Ω (nil? p538.snd) fun _↦if 0≤if 200<((ByteArray.size s28):Int) then 200 else((ByteArray.size s28):Int) then if(if 200<((ByteArray.size s28):Int) then 200 else((ByteArray.size s28):Int))≤((ByteArray.size s28):Int) then Ω (E cx (Key.fn 12) [vs s529,vi at29,vb c30] []) fun r541↦Ω (ret1 r541) fun v542↦Ω (AV.str? v542) fun s543↦if((Nat.add (ByteArray.size s529) (ByteArray.size (ByteArray.extract s28 0 (τ (if 200<((ByteArray.size s28):Int) then 200 else((ByteArray.size s28):Int)))))):Int)>9223372036854775807 then none else Ω (E cx (Key.fn 12) [vs s537,vi at29,vb c30] []) fun r544↦Ω (ret1 r544) fun v545↦Ω (AV.str? v545) fun s546↦if 0≤if 24<((ByteArray.size (ByteArray.extract s28 0 (τ (if 200<((ByteArray.size s28):Int) then 200 else((ByteArray.size s28):Int))))):Int) then 24 else((ByteArray.size (ByteArray.extract s28 0 (τ (if 200<((ByteArray.size s28):Int) then 200 else((ByteArray.size s28):Int))))):Int) then if(if 24<((ByteArray.size (ByteArray.extract s28 0 (τ (if 200<((ByteArray.size s28):Int) then 200 else((ByteArray.size s28):Int))))):Int) then 24 else((ByteArray.size (ByteArray.extract s28 0 (τ (if 200<((ByteArray.size s28):Int) then 200 else((ByteArray.size s28):Int))))):Int))≤((ByteArray.size (ByteArray.extract s28 0 (τ (if 200<((ByteArray.size s28):Int) then 200 else((ByteArray.size s28):Int))))):Int) then Ω (E cx (Key.fn 13) [vi at29,vi 9] []) fun r547↦Ω (ret1 r547) fun v548↦Ω (AV.int? ı v548) fun n549↦Ω (E cx (Key.fn 12) [vs s529,vi (IntKind.wrap ı (Int.add 40 n549)),vb c30] []) fun r550↦Ω (ret1 r550) fun v551↦Ω (AV.str? v551) fun s552↦Ω (E cx (Key.fn 13) [vi at29,vi 9] []) fun r553↦Ω (ret1 r553) fun v554↦Ω (AV.int? ı v554) fun n555↦Ω (E cx (Key.fn 12) [vs s537,vi (IntKind.wrap ı (Int.add 8 n555)),vb c30] []) fun r556↦Ω (ret1 r556) fun v557↦Ω (AV.str? v557) fun s558↦Ω (E cx (Key.loop 3 [true,true,true,true,true,true,true,true,true,true,true,true,true,true,true,true,false,true,false]) [vbool b306,vi 0,AV.ptr 0 0 0 0,AV.ptr 3 0 0 0,vbool true,AV.list 0 1 [[vs (ByteArray.extract s28 0 (τ (if 200<((ByteArray.size s28):Int) then 200 else((ByteArray.size s28):Int))))],[vs s529],[vs s543],[vs (ByteArray.append s529 (ByteArray.extract s28 0 (τ (if 200<((ByteArray.size s28):Int) then 200 else((ByteArray.size s28):Int)))))],[vs s537],[vs s546],[vs (ByteArray.extract (ByteArray.extract s28 0 (τ (if 200<((ByteArray.size s28):Int) then 200 else((ByteArray.size s28):Int)))) 0 (τ (if 24<((ByteArray.size (ByteArray.extract s28 0 (τ (if 200<((ByteArray.size s28):Int) then 200 else((ByteArray.size s28):Int))))):Int) then 24 else((ByteArray.size (ByteArray.extract s28 0 (τ (if 200<((ByteArray.size s28):Int) then 200 else((ByteArray.size s28):Int))))):Int))))],[vs s552],[vs s558]],vi 9] [Ob.mk OK.box 24 5 0 [[vu n316,vu n318,vu n320,vu n322,vu n324]],Ob.mk OK.box 32 9 0 [[vu n332,vu n334,vu n336,vu n338,vu n340,vi n342,AV.list 0 1 es344,vbool b346,AV.list 0 2 es348]],Ob.mk OK.box 35 9 0 [[vi n356,vi n358,vi n360,vi n362,vi n364,vi n366,AV.list 0 1 es368,AV.list 0 1 es370,vbool b372]],Ob.mk OK.box 37 3 0 [[vu n380,vu n382,vu n384]],Ob.mk OK.box 32 9 0 [[vu n392,vu n394,vu n396,vu n398,vu n400,vi n402,AV.list 0 1 es404,vbool b406,AV.list 0 2 es408]],Ob.mk OK.box 32 9 0 [[vu n416,vu n418,vu n420,vu n422,vu n424,vi n426,AV.list 0 1 es428,vbool b430,AV.list 0 2 es432]],Ob.mk OK.box 41 12 0 [[vu n440,vbool b442,AV.list 0 2 es444,vu n446,vu n448,vu n450,vu n452,vu n454,vi n456,AV.list 0 1 es458,vbool b460,AV.list 0 2 es462]],Ob.mk OK.box 41 12 0 [[vu n470,vbool b472,AV.list 0 2 es474,vu n476,vu n478,vu n480,vu n482,vu n484,vi n486,AV.list 0 1 es488,vbool b490,AV.list 0 2 es492]],Ob.mk OK.box 41 12 0 [[vu n500,vbool b502,AV.list 0 2 es504,vu n506,vu n508,vu n510,vu n512,vu n514,vi n516,AV.list 0 1 es518,vbool b520,AV.list 0 2 es522]]]) fun r559↦Ω (asJump r559) fun j560↦bif JX.is j560.fst (JX.exit 4) then Ω (uncons? j560.snd.fst) fun p561↦Ω (AV.bool? p561.fst) fun _↦Ω (uncons? p561.snd) fun p563↦Ω (AV.int? ı p563.fst) fun _↦Ω (nil? p563.snd) fun _↦Ω (uncons? j560.snd.snd) fun p566↦Ω (obIs (Ob.mk OK.box 24 5 0 [[vu n316,vu n318,vu n320,vu n322,vu n324]]) p566.fst) fun _↦Ω (chk p566.fst.ver 0) fun _↦Ω (uncons? p566.fst.es) fun p569↦Ω (nil? p569.snd) fun _↦Ω (uncons? p569.fst) fun p571↦Ω (AV.int? υ p571.fst) fun n572↦Ω (uncons? p571.snd) fun p573↦Ω (AV.int? υ p573.fst) fun n574↦Ω (uncons? p573.snd) fun p575↦Ω (AV.int? υ p575.fst) fun n576↦Ω (uncons? p575.snd) fun p577↦Ω (AV.int? υ p577.fst) fun n578↦Ω (uncons? p577.snd) fun p579↦Ω (AV.int? υ p579.fst) fun n580↦Ω (nil? p579.snd) fun _↦Ω (uncons? p566.snd) fun p582↦Ω (obIs (Ob.mk OK.box 32 9 0 [[vu n332,vu n334,vu n336,vu n338,vu n340,vi n342,AV.list 0 1 es344,vbool b346,AV.list 0 2 es348]]) p582.fst) fun _↦Ω (chk p582.fst.ver 0) fun _↦Ω (uncons? p582.fst.es) fun p585↦Ω (nil? p585.snd) fun _↦Ω (uncons? p585.fst) fun p587↦Ω (AV.int? υ p587.fst) fun _↦Ω (uncons? p587.snd) fun p589↦Ω (AV.int? υ p589.fst) fun _↦Ω (uncons? p589.snd) fun p591↦Ω (AV.int? υ p591.fst) fun _↦Ω (uncons? p591.snd) fun p593↦Ω (AV.int? υ p593.fst) fun _↦Ω (uncons? p593.snd) fun p595↦Ω (AV.int? υ p595.fst) fun _↦Ω (uncons? p595.snd) fun p597↦Ω (AV.int? ı p597.fst) fun _↦Ω (uncons? p597.snd) fun p599↦Ω (AV.list? 1 p599.fst) fun _↦Ω (uncons? p599.snd) fun p601↦Ω (AV.bool? p601.fst) fun _↦Ω (uncons? p601.snd) fun p603↦Ω (AV.list? 2 p603.fst) fun _↦Ω (nil? p603.snd) fun _↦Ω (uncons? p582.snd) fun p606↦Ω (obIs (Ob.mk OK.box 35 9 0 [[vi n356,vi n358,vi n360,vi n362,vi n364,vi n366,AV.list 0 1 es368,AV.list 0 1 es370,vbool b372]]) p606.fst) fun _↦Ω (chk p606.fst.ver 0) fun _↦Ω (uncons? p606.fst.es) fun p609↦Ω (nil? p609.snd) fun _↦Ω (uncons? p609.fst) fun p611↦Ω (AV.int? ı p611.fst) fun _↦Ω (uncons? p611.snd) fun p613↦Ω (AV.int? ı p613.fst) fun _↦Ω (uncons? p613.snd) fun p615↦Ω (AV.int? ı p615.fst) fun _↦Ω (uncons? p615.snd) fun p617↦Ω (AV.int? ı p617.fst) fun _↦Ω (uncons? p617.snd) fun p619↦Ω (AV.int? ı p619.fst) fun _↦Ω (uncons? p619.snd) fun p621↦Ω (AV.int? ı p621.fst) fun _↦Ω (uncons? p621.snd) fun p623↦Ω (AV.list? 1 p623.fst) fun _↦Ω (uncons? p623.snd) fun p625↦Ω (AV.list? 1 p625.fst) fun _↦Ω (uncons? p625.snd) fun p627↦Ω (AV.bool? p627.fst) fun _↦Ω (nil? p627.snd) fun _↦Ω (uncons? p606.snd) fun p630↦Ω (obIs (Ob.mk OK.box 37 3 0 [[vu n380,vu n382,vu n384]]) p630.fst) fun _↦Ω (chk p630.fst.ver 0) fun _↦Ω (uncons? p630.fst.es) fun p633↦Ω (nil? p633.snd) fun _↦Ω (uncons? p633.fst) fun p635↦Ω (AV.int? υ p635.fst) fun n636↦Ω (uncons? p635.snd) fun p637↦Ω (AV.int? υ p637.fst) fun n638↦Ω (uncons? p637.snd) fun p639↦Ω (AV.int? υ p639.fst) fun n640↦Ω (nil? p639.snd) fun _↦Ω (uncons? p630.snd) fun p642↦Ω (obIs (Ob.mk OK.box 32 9 0 [[vu n392,vu n394,vu n396,vu n398,vu n400,vi n402,AV.list 0 1 es404,vbool b406,AV.list 0 2 es408]]) p642.fst) fun _↦Ω (chk p642.fst.ver 0) fun _↦Ω (uncons? p642.fst.es) fun p645↦Ω (nil? p645.snd) fun _↦Ω (uncons? p645.fst) fun p647↦Ω (AV.int? υ p647.fst) fun _↦Ω (uncons? p647.snd) fun p649↦Ω (AV.int? υ p649.fst) fun _↦Ω (uncons? p649.snd) fun p651↦Ω (AV.int? υ p651.fst) fun _↦Ω (uncons? p651.snd) fun p653↦Ω (AV.int? υ p653.fst) fun _↦Ω (uncons? p653.snd) fun p655↦Ω (AV.int? υ p655.fst) fun _↦Ω (uncons? p655.snd) fun p657↦Ω (AV.int? ı p657.fst) fun _↦Ω (uncons? p657.snd) fun p659↦Ω (AV.list? 1 p659.fst) fun _↦Ω (uncons? p659.snd) fun p661↦Ω (AV.bool? p661.fst) fun _↦Ω (uncons? p661.snd) fun p663↦Ω (AV.list? 2 p663.fst) fun _↦Ω (nil? p663.snd) fun _↦Ω (uncons? p642.snd) fun p666↦Ω (obIs (Ob.mk OK.box 32 9 0 [[vu n416,vu n418,vu n420,vu n422,vu n424,vi n426,AV.list 0 1 es428,vbool b430,AV.list 0 2 es432]]) p666.fst) fun _↦Ω (chk p666.fst.ver 0) fun _↦Ω (uncons? p666.fst.es) fun p669↦Ω (nil? p669.snd) fun _↦Ω (uncons? p669.fst) fun p671↦Ω (AV.int? υ p671.fst) fun _↦Ω (uncons? p671.snd) fun p673↦Ω (AV.int? υ p673.fst) fun _↦Ω (uncons? p673.snd) fun p675↦Ω (AV.int? υ p675.fst) fun _↦Ω (uncons? p675.snd) fun p677↦Ω (AV.int? υ p677.fst) fun _↦Ω (uncons? p677.snd) fun p679↦Ω (AV.int? υ p679.fst) fun _↦Ω (uncons? p679.snd) fun p681↦Ω (AV.int? ı p681.fst) fun _↦Ω (uncons? p681.snd) fun p683↦Ω (AV.list? 1 p683.fst) fun _↦Ω (uncons? p683.snd) fun p685↦Ω (AV.bool? p685.fst) fun _↦Ω (uncons? p685.snd) fun p687↦Ω (AV.list? 2 p687.fst) fun _↦Ω (nil? p687.snd) fun _↦Ω (uncons? p666.snd) fun p690↦Ω (obIs (Ob.mk OK.box 41 12 0 [[vu n440,vbool b442,AV.list 0 2 es444,vu n446,vu n448,vu n450,vu n452,vu n454,vi n456,AV.list 0 1 es458,vbool b460,AV.list 0 2 es462]]) p690.fst) fun _↦Ω (chk p690.fst.ver 0) fun _↦Ω (uncons? p690.fst.es) fun p693↦Ω (nil? p693.snd) fun _↦Ω (uncons? p693.fst) fun p695↦Ω (AV.int? υ p695.fst) fun _↦Ω (uncons? p695.snd) fun p697↦Ω (AV.bool? p697.fst) fun _↦Ω (uncons? p697.snd) fun p699↦Ω (AV.list? 2 p699.fst) fun _↦Ω (uncons? p699.snd) fun p701↦Ω (AV.int? υ p701.fst) fun _↦Ω (uncons? p701.snd) fun p703↦Ω (AV.int? υ p703.fst) fun _↦Ω (uncons? p703.snd) fun p705↦Ω (AV.int? υ p705.fst) fun _↦Ω (uncons? p705.snd) fun p707↦Ω (AV.int? υ p707.fst) fun _↦Ω (uncons? p707.snd) fun p709↦Ω (AV.int? υ p709.fst) fun _↦Ω (uncons? p709.snd) fun p711↦Ω (AV.int? ı p711.fst) fun _↦Ω (uncons? p711.snd) fun p713↦Ω (AV.list? 1 p713.fst) fun _↦Ω (uncons? p713.snd) fun p715↦Ω (AV.bool? p715.fst) fun _↦Ω (uncons? p715.snd) fun p717↦Ω (AV.list? 2 p717.fst) fun _↦Ω (nil? p717.snd) fun _↦Ω (uncons? p690.snd) fun p720↦Ω (obIs (Ob.mk OK.box 41 12 0 [[vu n470,vbool b472,AV.list 0 2 es474,vu n476,vu n478,vu n480,vu n482,vu n484,vi n486,AV.list 0 1 es488,vbool b490,AV.list 0 2 es492]]) p720.fst) fun _↦Ω (chk p720.fst.ver 0) fun _↦Ω (uncons? p720.fst.es) fun p723↦Ω (nil? p723.snd) fun _↦Ω (uncons? p723.fst) fun p725↦Ω (AV.int? υ p725.fst) fun _↦Ω (uncons? p725.snd) fun p727↦Ω (AV.bool? p727.fst) fun _↦Ω (uncons? p727.snd) fun p729↦Ω (AV.list? 2 p729.fst) fun _↦Ω (uncons? p729.snd) fun p731↦Ω (AV.int? υ p731.fst) fun _↦Ω (uncons? p731.snd) fun p733↦Ω (AV.int? υ p733.fst) fun _↦Ω (uncons? p733.snd) fun p735↦Ω (AV.int? υ p735.fst) fun _↦Ω (uncons? p735.snd) fun p737↦Ω (AV.int? υ p737.fst) fun _↦Ω (uncons? p737.snd) fun p739↦Ω (AV.int? υ p739.fst) fun _↦Ω (uncons? p739.snd) fun p741↦Ω (AV.int? ı p741.fst) fun _↦Ω (uncons? p741.snd) fun p743↦Ω (AV.list? 1 p743.fst) fun _↦Ω (uncons? p743.snd) fun p745↦Ω (AV.bool? p745.fst) fun _↦Ω (uncons? p745.snd) fun p747↦Ω (AV.list? 2 p747.fst) fun _↦Ω (nil? p747.snd) fun _↦Ω (uncons? p720.snd) fun p750↦Ω (obIs (Ob.mk OK.box 41 12 0 [[vu n500,vbool b502,AV.list 0 2 es504,vu n506,vu n508,vu n510,vu n512,vu n514,vi n516,AV.list 0 1 es518,vbool b520,AV.list 0 2 es522]]) p750.fst) fun _↦Ω (chk p750.fst.ver 0) fun _↦Ω (uncons? p750.fst.es) fun p753↦Ω (nil? p753.snd) fun _↦Ω (uncons? p753.fst) fun p755↦Ω (AV.int? υ p755.fst) fun _↦Ω (uncons? p755.snd) fun p757↦Ω (AV.bool? p757.fst) fun _↦Ω (uncons? p757.snd) fun p759↦Ω (AV.list? 2 p759.fst) fun _↦Ω (uncons? p759.snd) fun p761↦Ω (AV.int? υ p761.fst) fun _↦Ω (uncons? p761.snd) fun p763↦Ω (AV.int? υ p763.fst) fun _↦Ω (uncons? p763.snd) fun p765↦Ω (AV.int? υ p765.fst) fun _↦Ω (uncons? p765.snd) fun p767↦Ω (AV.int? υ p767.fst) fun _↦Ω (uncons? p767.snd) fun p769↦Ω (AV.int? υ p769.fst) fun _↦Ω (uncons? p769.snd) fun p771↦Ω (AV.int? ı p771.fst) fun _↦Ω (uncons? p771.snd) fun p773↦Ω (AV.list? 1 p773.fst) fun _↦Ω (uncons? p773.snd) fun p775↦Ω (AV.bool? p775.fst) fun _↦Ω (uncons? p775.snd) fun p777↦Ω (AV.list? 2 p777.fst) fun _↦Ω (nil? p777.snd) fun _↦Ω (nil? p750.snd) fun _↦Ω (E cx (Key.fn 22) [AV.agg [vu n572,vu n574,vu n576,vu n578,vu n580]] []) fun r781↦Ω (ret1 r781) fun v782↦Ω (AV.int? υ v782) fun n783↦Ω (E cx (Key.fn 23) [AV.agg [vu n572,vu n574,vu n576,vu n578,vu n580]] []) fun r784↦Ω (ret1 r784) fun v785↦Ω (AV.int? υ v785) fun n786↦bif decide (n783=n786) then Ω (E cx (Key.fn 24) [AV.agg [vu n636,vu n638,vu n640]] []) fun r787↦Ω (ret1 r787) fun v788↦Ω (AV.str? v788) fun s789↦Ω (E cx (Key.fn 25) [AV.agg [vu n636,vu n638,vu n640]] []) fun r790↦Ω (ret1 r790) fun v791↦Ω (AV.str? v791) fun s792↦bif List.beq (ByteArray.toList s789) (ByteArray.toList s792) then some (Out.ret (vbool true),[]) else some (Out.ret (vbool false),[]) else some (Out.ret (vbool false),[]) else q3_0 j560 n316 n318 n320 n322 n324 n332 n334 n336 n338 n340 n342 es344 b346 es348 n356 n358 n360 n362 n364 n366 es368 es370 b372 n380 n382 n384 n392 n394 n396 n398 n400 n402 es404 b406 es408 n416 n418 n420 n422 n424 n426 es428 b430 es432 n440 b442 es444 n446 n448 n450 n452 n454 n456 es458 b460 es462 n470 b472 es474 n476 n478 n480 n482 n484 n486 es488 b490 es492 n500 b502 es504 n506 n508 n510 n512 n514 n516 es518 b520 es522 else none else none else none else none else q3_0 j304 n94 n96 n98 n100 n102 n110 n112 n114 n116 n118 n120 es122 b124 es126 n134 n136 n138 n140 n142 n144 es146 es148 b150 n158 n160 n162 n170 n172 n174 n176 n178 n180 es182 b184 es186 n194 n196 n198 n200 n202 n204 es206 b208 es210 n218 b220 es222 n224 n226 n228 n230 n232 n234 es236 b238 es240 n248 b250 es252 n254 n256 n258 n260 n262 n264 es266 b268 es270 n278 b280 es282 n284 n286 n288 n290 n292 n294 es296 b298 es300 else bif JX.is j82.fst JX.ret then Ω (uncons? j82.snd.fst) fun p1233↦Ω (AV.bool? p1233.fst) fun b1234↦Ω (uncons? p1233.snd) fun p1235↦Ω (AV.int? ı p1235.fst) fun _↦Ω (nil? p1235.snd) fun _↦Ω (uncons? j82.snd.snd) fun p1238↦Ω (obIs (Ob.mk OK.box 24 5 0 [[vu d0,vu d1,vu d2,vu d3,vu d4]]) p1238.fst) fun _↦Ω (chk p1238.fst.ver 0) fun _↦Ω (uncons? p1238.fst.es) fun p1241↦Ω (nil? p1241.snd) fun _↦Ω (uncons? p1241.fst) fun p1243↦Ω (AV.int? υ p1243.fst) fun _↦Ω (uncons? p1243.snd) fun p1245↦Ω (AV.int? υ p1245.fst) fun _↦Ω (uncons? p1245.snd) fun p1247↦Ω (AV.int? υ p1247.fst) fun _↦Ω (uncons? p1247.snd) fun p1249↦Ω (AV.int? υ p1249.fst) fun _↦Ω (uncons? p1249.snd) fun p1251↦Ω (AV.int? υ p1251.fst) fun _↦Ω (nil? p1251.snd) fun _↦Ω (uncons? p1238.snd) fun p1254↦Ω (obIs (Ob.mk OK.box 32 9 0 [[vu v5,vu v6,vu v7,vu v8,vu v9,vi v10,AV.list 0 1 v11,vbool v12,AV.list 0 2 v13]]) p1254.fst) fun _↦Ω (chk p1254.fst.ver 0) fun _↦Ω (uncons? p1254.fst.es) fun p1257↦Ω (nil? p1257.snd) fun _↦Ω (uncons? p1257.fst) fun p1259↦Ω (AV.int? υ p1259.fst) fun _↦Ω (uncons? p1259.snd) fun p1261↦Ω (AV.int? υ p1261.fst) fun _↦Ω (uncons? p1261.snd) fun p1263↦Ω (AV.int? υ p1263.fst) fun _↦Ω (uncons? p1263.snd) fun p1265↦Ω (AV.int? υ p1265.fst) fun _↦Ω (uncons? p1265.snd) fun p1267↦Ω (AV.int? υ p1267.fst) fun _↦Ω (uncons? p1267.snd) fun p1269↦Ω (AV.int? ı p1269.fst) fun _↦Ω (uncons? p1269.snd) fun p1271↦Ω (AV.list? 1 p1271.fst) fun _↦Ω (uncons? p1271.snd) fun p1273↦Ω (AV.bool? p1273.fst) fun _↦Ω (uncons? p1273.snd) fun p1275↦Ω (AV.list? 2 p1275.fst) fun _↦Ω (nil? p1275.snd) fun _↦Ω (uncons? p1254.snd) fun p1278↦Ω (obIs (Ob.mk OK.box 35 9 0 [[vi x14,vi x15,vi x16,vi x17,vi x18,vi x19,AV.list 0 1 x20,AV.list 0 1 x21,vbool x22]]) p1278.fst) fun _↦Ω (chk p1278.fst.ver 0) fun _↦Ω (uncons? p1278.fst.es) fun p1281↦Ω (nil? p1281.snd) fun _↦Ω (uncons? p1281.fst) fun p1283↦Ω (AV.int? ı p1283.fst) fun _↦Ω (uncons? p1283.snd) fun p1285↦Ω (AV.int? ı p1285.fst) fun _↦Ω (uncons? p1285.snd) fun p1287↦Ω (AV.int? ı p1287.fst) fun _↦Ω (uncons? p1287.snd) fun p1289↦Ω (AV.int? ı p1289.fst) fun _↦Ω (uncons? p1289.snd) fun p1291↦Ω (AV.int? ı p1291.fst) fun _↦Ω (uncons? p1291.snd) fun p1293↦Ω (AV.int? ı p1293.fst) fun _↦Ω (uncons? p1293.snd) fun p1295↦Ω (AV.list? 1 p1295.fst) fun _↦Ω (uncons? p1295.snd) fun p1297↦Ω (AV.list? 1 p1297.fst) fun _↦Ω (uncons? p1297.snd) fun p1299↦Ω (AV.bool? p1299.fst) fun _↦Ω (nil? p1299.snd) fun _↦Ω (uncons? p1278.snd) fun p1302↦Ω (obIs (Ob.mk OK.box 37 3 0 [[vu r25,vu r26,vu r27]]) p1302.fst) fun _↦Ω (chk p1302.fst.ver 0) fun _↦Ω (uncons? p1302.fst.es) fun p1305↦Ω (nil? p1305.snd) fun _↦Ω (uncons? p1305.fst) fun p1307↦Ω (AV.int? υ p1307.fst) fun _↦Ω (uncons? p1307.snd) fun p1309↦Ω (AV.int? υ p1309.fst) fun _↦Ω (uncons? p1309.snd) fun p1311↦Ω (AV.int? υ p1311.fst) fun _↦Ω (nil? p1311.snd) fun _↦Ω (uncons? p1302.snd) fun p1314↦Ω (obIs (Ob.mk OK.box 32 9 0 [[vu v5,vu v6,vu v7,vu v8,vu v9,vi v10,AV.list 0 1 (List.drop 0 (List.take (τ (if 40<((ℓ v11):Int) then 40 else((ℓ v11):Int))) v11)),vbool v12,AV.list 0 2 (List.drop 0 (List.take (τ (if 40<((ℓ v13):Int) then 40 else((ℓ v13):Int))) v13))]]) p1314.fst) fun _↦Ω (chk p1314.fst.ver 0) fun _↦Ω (uncons? p1314.fst.es) fun p1317↦Ω (nil? p1317.snd) fun _↦Ω (uncons? p1317.fst) fun p1319↦Ω (AV.int? υ p1319.fst) fun _↦Ω (uncons? p1319.snd) fun p1321↦Ω (AV.int? υ p1321.fst) fun _↦Ω (uncons? p1321.snd) fun p1323↦Ω (AV.int? υ p1323.fst) fun _↦Ω (uncons? p1323.snd) fun p1325↦Ω (AV.int? υ p1325.fst) fun _↦Ω (uncons? p1325.snd) fun p1327↦Ω (AV.int? υ p1327.fst) fun _↦Ω (uncons? p1327.snd) fun p1329↦Ω (AV.int? ı p1329.fst) fun _↦Ω (uncons? p1329.snd) fun p1331↦Ω (AV.list? 1 p1331.fst) fun _↦Ω (uncons? p1331.snd) fun p1333↦Ω (AV.bool? p1333.fst) fun _↦Ω (uncons? p1333.snd) fun p1335↦Ω (AV.list? 2 p1335.fst) fun _↦Ω (nil? p1335.snd) fun _↦Ω (uncons? p1314.snd) fun p1338↦Ω (obIs (Ob.mk OK.box 32 9 0 [[vu n35,vu n37,vu n39,vu n41,vu n43,vi n45,AV.list 0 1 es47,vbool b49,AV.list 0 2 es51]]) p1338.fst) fun _↦Ω (chk p1338.fst.ver 0) fun _↦Ω (uncons? p1338.fst.es) fun p1341↦Ω (nil? p1341.snd) fun _↦Ω (uncons? p1341.fst) fun p1343↦Ω (AV.int? υ p1343.fst) fun _↦Ω (uncons? p1343.snd) fun p1345↦Ω (AV.int? υ p1345.fst) fun _↦Ω (uncons? p1345.snd) fun p1347↦Ω (AV.int? υ p1347.fst) fun _↦Ω (uncons? p1347.snd) fun p1349↦Ω (AV.int? υ p1349.fst) fun _↦Ω (uncons? p1349.snd) fun p1351↦Ω (AV.int? υ p1351.fst) fun _↦Ω (uncons? p1351.snd) fun p1353↦Ω (AV.int? ı p1353.fst) fun _↦Ω (uncons? p1353.snd) fun p1355↦Ω (AV.list? 1 p1355.fst) fun _↦Ω (uncons? p1355.snd) fun p1357↦Ω (AV.bool? p1357.fst) fun _↦Ω (uncons? p1357.snd) fun p1359↦Ω (AV.list? 2 p1359.fst) fun _↦Ω (nil? p1359.snd) fun _↦Ω (uncons? p1338.snd) fun p1362↦Ω (obIs (Ob.mk OK.box 41 12 0 [[vu n57,vbool b59,AV.list 0 2 es61,vu n63,vu n65,vu n67,vu n69,vu n71,vi n73,AV.list 0 1 es75,vbool b77,AV.list 0 2 es79]]) p1362.fst) fun _↦Ω (chk p1362.fst.ver 0) fun _↦Ω (uncons? p1362.fst.es) fun p1365↦Ω (nil? p1365.snd) fun _↦Ω (uncons? p1365.fst) fun p1367↦Ω (AV.int? υ p1367.fst) fun _↦Ω (uncons? p1367.snd) fun p1369↦Ω (AV.bool? p1369.fst) fun _↦Ω (uncons? p1369.snd) fun p1371↦Ω (AV.list? 2 p1371.fst) fun _↦Ω (uncons? p1371.snd) fun p1373↦Ω (AV.int? υ p1373.fst) fun _↦Ω (uncons? p1373.snd) fun p1375↦Ω (AV.int? υ p1375.fst) fun _↦Ω (uncons? p1375.snd) fun p1377↦Ω (AV.int? υ p1377.fst) fun _↦Ω (uncons? p1377.snd) fun p1379↦Ω (AV.int? υ p1379.fst) fun _↦Ω (uncons? p1379.snd) fun p1381↦Ω (AV.int? υ p1381.fst) fun _↦Ω (uncons? p1381.snd) fun p1383↦Ω (AV.int? ı p1383.fst) fun _↦Ω (uncons? p1383.snd) fun p1385↦Ω (AV.list? 1 p1385.fst) fun _↦Ω (uncons? p1385.snd) fun p1387↦Ω (AV.bool? p1387.fst) fun _↦Ω (uncons? p1387.snd) fun p1389↦Ω (AV.list? 2 p1389.fst) fun _↦Ω (nil? p1389.snd) fun _↦Ω (uncons? p1362.snd) fun p1392↦Ω (obIs (Ob.mk OK.box 41 12 0 [[vu n57,vbool b59,AV.list 0 2 es61,vu v5,vu v6,vu v7,vu v8,vu v9,vi v10,AV.list 0 1 (List.drop 0 (List.take (τ (if 40<((ℓ v11):Int) then 40 else((ℓ v11):Int))) v11)),vbool v12,AV.list 0 2 (List.drop 0 (List.take (τ (if 40<((ℓ v13):Int) then 40 else((ℓ v13):Int))) v13))]]) p1392.fst) fun _↦Ω (chk p1392.fst.ver 0) fun _↦Ω (uncons? p1392.fst.es) fun p1395↦Ω (nil? p1395.snd) fun _↦Ω (uncons? p1395.fst) fun p1397↦Ω (AV.int? υ p1397.fst) fun _↦Ω (uncons? p1397.snd) fun p1399↦Ω (AV.bool? p1399.fst) fun _↦Ω (uncons? p1399.snd) fun p1401↦Ω (AV.list? 2 p1401.fst) fun _↦Ω (uncons? p1401.snd) fun p1403↦Ω (AV.int? υ p1403.fst) fun _↦Ω (uncons? p1403.snd) fun p1405↦Ω (AV.int? υ p1405.fst) fun _↦Ω (uncons? p1405.snd) fun p1407↦Ω (AV.int? υ p1407.fst) fun _↦Ω (uncons? p1407.snd) fun p1409↦Ω (AV.int? υ p1409.fst) fun _↦Ω (uncons? p1409.snd) fun p1411↦Ω (AV.int? υ p1411.fst) fun _↦Ω (uncons? p1411.snd) fun p1413↦Ω (AV.int? ı p1413.fst) fun _↦Ω (uncons? p1413.snd) fun p1415↦Ω (AV.list? 1 p1415.fst) fun _↦Ω (uncons? p1415.snd) fun p1417↦Ω (AV.bool? p1417.fst) fun _↦Ω (uncons? p1417.snd) fun p1419↦Ω (AV.list? 2 p1419.fst) fun _↦Ω (nil? p1419.snd) fun _↦Ω (uncons? p1392.snd) fun p1422↦Ω (obIs (Ob.mk OK.box 41 12 0 [[vu n57,vbool v12,AV.list 0 2 (List.drop 0 (List.take (τ (if 40<((ℓ v13):Int) then 40 else((ℓ v13):Int))) v13)),vu n63,vu n65,vu n67,vu n69,vu n71,vi n73,AV.list 0 1 es75,vbool b77,AV.list 0 2 es79]]) p1422.fst) fun _↦Ω (chk p1422.fst.ver 0) fun _↦Ω (uncons? p1422.fst.es) fun p1425↦Ω (nil? p1425.snd) fun _↦Ω (uncons? p1425.fst) fun p1427↦Ω (AV.int? υ p1427.fst) fun _↦Ω (uncons? p1427.snd) fun p1429↦Ω (AV.bool? p1429.fst) fun _↦Ω (uncons? p1429.snd) fun p1431↦Ω (AV.list? 2 p1431.fst) fun _↦Ω (uncons? p1431.snd) fun p1433↦Ω (AV.int? υ p1433.fst) fun _↦Ω (uncons? p1433.snd) fun p1435↦Ω (AV.int? υ p1435.fst) fun _↦Ω (uncons? p1435.snd) fun p1437↦Ω (AV.int? υ p1437.fst) fun _↦Ω (uncons? p1437.snd) fun p1439↦Ω (AV.int? υ p1439.fst) fun _↦Ω (uncons? p1439.snd) fun p1441↦Ω (AV.int? υ p1441.fst) fun _↦Ω (uncons? p1441.snd) fun p1443↦Ω (AV.int? ı p1443.fst) fun _↦Ω (uncons? p1443.snd) fun p1445↦Ω (AV.list? 1 p1445.fst) fun _↦Ω (uncons? p1445.snd) fun p1447↦Ω (AV.bool? p1447.fst) fun _↦Ω (uncons? p1447.snd) fun p1449↦Ω (AV.list? 2 p1449.fst) fun _↦Ω (nil? p1449.snd) fun _↦Ω (nil? p1422.snd) fun _↦some (Out.ret (vbool b1234),[]) else none else none else none else none else none:=by
 intros
 exact(E_ov f5_true [87] _ _ _).trans (by kernel_rfl)
noncomputable def q3_l0_0:Int →
 Int →
 Int →
 Int →
 Int →
 Int →
 Int →
 Int →
 Int →
 Int →
 Int →
 Int →
 List (List AV) →
 Bool →
 List (List AV) →
 Int →
 Int →
 Int →
 Int →
 Int →
 Int →
 List (List AV) →
 List (List AV) →
 Bool →
 Int →
 Int →
 Int →
 Int →
 Int →
 Int →
 Int →
 Int →
 Int →
 List (List AV) →
 Bool →
 List (List AV) →
 Int →
 Int →
 Int →
 Int →
 Int →
 Int →
 List (List AV) →
 Bool →
 List (List AV) →
 Int →
 Bool →
 List (List AV) →
 Int →
 Int →
 Int →
 Int →
 Int →
 Int →
 List (List AV) →
 Bool →
 List (List AV) →
 Int →
 Bool →
 List (List AV) →
 Int →
 Int →
 Int →
 Int →
 Int →
 Int →
 List
 (List AV) →
 Bool →
 List
 (List
 AV) →
 Int →
 Bool →
 List
 (List
 AV) →
 Int →
 Int →
 Int →
 Int →
 Int →
 Int →
 List
 (List
 AV) →
 Bool →
 List
 (List
 AV) →
 Option
 (Out ×
 Heap) :=
 fun x1454 x1461 x1462 x1463 x1464 x1465 x1466 x1467 x1468 x1469 x1470 x1471 l1472 b1473 l1474 x1475 x1476 x1477 x1478 x1479 x1480 l1481 l1482 b1483 x1484 x1485
 x1486 x1487 x1488 x1489 x1490 x1491 x1492 l1493 b1494 l1495 x1496 x1497 x1498 x1499 x1500 x1501 l1502 b1503 l1504 x1505 b1506 l1507 x1508 x1509 x1510 x1511
 x1512 x1513 l1514 b1515 l1516 x1517 b1518 l1519 x1520 x1521 x1522 x1523 x1524 x1525 l1526 b1527 l1528 x1529 b1530 l1531 x1532 x1533 x1534 x1535 x1536 x1537
 l1538 b1539 l1540 ↦
 some
 (Out.jump JX.ret [vbool false,vi x1454],
 [Ob.mk OK.box 24 5 0
 [[vu x1461,vu x1462,vu x1463,vu x1464,vu x1465]],
 Ob.mk OK.box 32 9 0
 [[vu x1466,vu x1467,vu x1468,vu x1469,vu x1470,vi x1471,
 AV.list 0 1 l1472,vbool b1473,AV.list 0 2 l1474]],
 Ob.mk OK.box 35 9 0
 [[vi x1475,vi x1476,vi x1477,vi x1478,vi x1479,vi x1480,
 AV.list 0 1 l1481,AV.list 0 1 l1482,vbool b1483]],
 Ob.mk OK.box 37 3 0 [[vu x1484,vu x1485,vu x1486]],
 Ob.mk OK.box 32 9 0
 [[vu x1487,vu x1488,vu x1489,vu x1490,vu x1491,vi x1492,
 AV.list 0 1 l1493,vbool b1494,AV.list 0 2 l1495]],
 Ob.mk OK.box 32 9 0
 [[vu x1496,vu x1497,vu x1498,vu x1499,vu x1500,vi x1501,
 AV.list 0 1 l1502,vbool b1503,AV.list 0 2 l1504]],
 Ob.mk OK.box 41 12 0
 [[vu x1505,vbool b1506,AV.list 0 2 l1507,vu x1508,vu x1509,
 vu x1510,vu x1511,vu x1512,vi x1513,AV.list 0 1 l1514,
 vbool b1515,AV.list 0 2 l1516]],
 Ob.mk OK.box 41 12 0
 [[vu x1517,vbool b1518,AV.list 0 2 l1519,vu x1520,vu x1521,
 vu x1522,vu x1523,vu x1524,vi x1525,AV.list 0 1 l1526,
 vbool b1527,AV.list 0 2 l1528]],
 Ob.mk OK.box 41 12 0
 [[vu x1529,vbool b1530,AV.list 0 2 l1531,vu x1532,vu x1533,
 vu x1534,vu x1535,vu x1536,vi x1537,AV.list 0 1 l1538,
 vbool b1539,AV.list 0 2 l1540]]])
theorem f3_l0:∀(b1453:Bool) (x1454:Int) (s1455:ByteArray) (x1456 x1457:Int) (b1458:Bool) (l1459:List (List AV)) (x1460 x1461 x1462 x1463 x1464 x1465 x1466 x1467 x1468 x1469 x1470 x1471:Int) (l1472:List (List AV)) (b1473:Bool) (l1474:List (List AV)) (x1475 x1476 x1477 x1478 x1479 x1480:Int) (l1481 l1482:List (List AV)) (b1483:Bool) (x1484 x1485 x1486 x1487 x1488 x1489 x1490 x1491 x1492:Int) (l1493:List (List AV)) (b1494:Bool) (l1495:List (List AV)) (x1496 x1497 x1498 x1499 x1500 x1501:Int) (l1502:List (List AV)) (b1503:Bool) (l1504:List (List AV)) (x1505:Int) (b1506:Bool) (l1507:List (List AV)) (x1508 x1509 x1510 x1511 x1512 x1513:Int) (l1514:List (List AV)) (b1515:Bool) (l1516:List (List AV)) (x1517:Int) (b1518:Bool) (l1519:List (List AV)) (x1520 x1521 x1522 x1523 x1524 x1525:Int) (l1526:List (List AV)) (b1527:Bool) (l1528:List (List AV)) (x1529:Int) (b1530:Bool) (l1531:List (List AV)) (x1532 x1533 x1534 x1535 x1536 x1537:Int) (l1538:List (List AV)) (b1539:Bool) (l1540:List (List AV)),E cx (Key.loop 3 [true,true,true,true,true,true,true,true,true,true,true,false,true,false]) [vbool b1453,vi x1454,vs s1455,vi x1456,vb x1457,AV.ptr 0 0 0 0,AV.ptr 3 0 0 0,vbool b1458,AV.ptr 5 0 0 0,AV.ptr 6 0 0 0,AV.ptr 7 0 0 0,AV.ptr 8 0 0 0,AV.list 0 9 l1459,vi x1460] [Ob.mk OK.box 24 5 0 [[vu x1461,vu x1462,vu x1463,vu x1464,vu x1465]],Ob.mk OK.box 32 9 0 [[vu x1466,vu x1467,vu x1468,vu x1469,vu x1470,vi x1471,AV.list 0 1 l1472,vbool b1473,AV.list 0 2 l1474]],Ob.mk OK.box 35 9 0 [[vi x1475,vi x1476,vi x1477,vi x1478,vi x1479,vi x1480,AV.list 0 1 l1481,AV.list 0 1 l1482,vbool b1483]],Ob.mk OK.box 37 3 0 [[vu x1484,vu x1485,vu x1486]],Ob.mk OK.box 32 9 0 [[vu x1487,vu x1488,vu x1489,vu x1490,vu x1491,vi x1492,AV.list 0 1 l1493,vbool b1494,AV.list 0 2 l1495]],Ob.mk OK.box 32 9 0 [[vu x1496,vu x1497,vu x1498,vu x1499,vu x1500,vi x1501,AV.list 0 1 l1502,vbool b1503,AV.list 0 2 l1504]],Ob.mk OK.box 41 12 0 [[vu x1505,vbool b1506,AV.list 0 2 l1507,vu x1508,vu x1509,vu x1510,vu x1511,vu x1512,vi x1513,AV.list 0 1 l1514,vbool b1515,AV.list 0 2 l1516]],Ob.mk OK.box 41 12 0 [[vu x1517,vbool b1518,AV.list 0 2 l1519,vu x1520,vu x1521,vu x1522,vu x1523,vu x1524,vi x1525,AV.list 0 1 l1526,vbool b1527,AV.list 0 2 l1528]],Ob.mk OK.box 41 12 0 [[vu x1529,vbool b1530,AV.list 0 2 l1531,vu x1532,vu x1533,vu x1534,vu x1535,vu x1536,vi x1537,AV.list 0 1 l1538,vbool b1539,AV.list 0 2 l1540]]]=bif decide (x1454<x1460) then if 0≤x1454 then Ω l1459[τ x1454]? fun cs1541↦Ω (uncons? cs1541) fun p1542↦Ω (AV.int? υ p1542.fst) fun n1543↦Ω (uncons? p1542.snd) fun p1544↦Ω (AV.int? υ p1544.fst) fun n1545↦Ω (uncons? p1544.snd) fun p1546↦Ω (AV.int? υ p1546.fst) fun n1547↦Ω (uncons? p1546.snd) fun p1548↦Ω (AV.int? υ p1548.fst) fun n1549↦Ω (uncons? p1548.snd) fun p1550↦Ω (AV.int? υ p1550.fst) fun n1551↦Ω (uncons? p1550.snd) fun p1552↦Ω (AV.int? ı p1552.fst) fun n1553↦Ω (uncons? p1552.snd) fun p1554↦Ω (AV.list? 1 p1554.fst) fun es1555↦Ω (uncons? p1554.snd) fun p1556↦Ω (AV.bool? p1556.fst) fun b1557↦Ω (uncons? p1556.snd) fun p1558↦Ω (AV.list? 2 p1558.fst) fun es1559↦Ω (nil? p1558.snd) fun _↦Ω (E cx (Key.fn 8) [AV.agg [vu n1543,vu n1545,vu n1547,vu n1549,vu n1551,vi n1553,AV.list 0 1 es1555,vbool b1557,AV.list 0 2 es1559]] []) fun r1561↦Ω (ret1 r1561) fun v1562↦Ω (AV.tup? v1562) fun vs1563↦Ω (uncons? vs1563) fun p1564↦Ω (AV.str? p1564.fst) fun s1565↦Ω (uncons? p1564.snd) fun p1566↦Ω (AV.int? ı p1566.fst) fun n1567↦Ω (nil? p1566.snd) fun _↦Ω (E cx (Key.fn 9) [AV.agg [vu n1543,vu n1545,vu n1547,vu n1549,vu n1551,vi n1553,AV.list 0 1 es1555,vbool b1557,AV.list 0 2 es1559]] []) fun r1569↦Ω (ret1 r1569) fun v1570↦Ω (AV.tup? v1570) fun vs1571↦Ω (uncons? vs1571) fun p1572↦Ω (AV.str? p1572.fst) fun s1573↦Ω (uncons? p1572.snd) fun p1574↦Ω (AV.int? ı p1574.fst) fun n1575↦Ω (nil? p1574.snd) fun _↦bif !List.beq (ByteArray.toList s1565) (ByteArray.toList s1573) then q3_l0_0 x1454 x1461 x1462 x1463 x1464 x1465 x1466 x1467 x1468 x1469 x1470 x1471 l1472 b1473 l1474 x1475 x1476 x1477 x1478 x1479 x1480 l1481 l1482 b1483 x1484 x1485 x1486 x1487 x1488 x1489 x1490 x1491 x1492 l1493 b1494 l1495 x1496 x1497 x1498 x1499 x1500 x1501 l1502 b1503 l1504 x1505 b1506 l1507 x1508 x1509 x1510 x1511 x1512 x1513 l1514 b1515 l1516 x1517 b1518 l1519 x1520 x1521 x1522 x1523 x1524 x1525 l1526 b1527 l1528 x1529 b1530 l1531 x1532 x1533 x1534 x1535 x1536 x1537 l1538 b1539 l1540 else bif n1567 !=n1575 then q3_l0_0 x1454 x1461 x1462 x1463 x1464 x1465 x1466 x1467 x1468 x1469 x1470 x1471 l1472 b1473 l1474 x1475 x1476 x1477 x1478 x1479 x1480 l1481 l1482 b1483 x1484 x1485 x1486 x1487 x1488 x1489 x1490 x1491 x1492 l1493 b1494 l1495 x1496 x1497 x1498 x1499 x1500 x1501 l1502 b1503 l1504 x1505 b1506 l1507 x1508 x1509 x1510 x1511 x1512 x1513 l1514 b1515 l1516 x1517 b1518 l1519 x1520 x1521 x1522 x1523 x1524 x1525 l1526 b1527 l1528 x1529 b1530 l1531 x1532 x1533 x1534 x1535 x1536 x1537 l1538 b1539 l1540 else E cx (Key.loop 3 [true,true,true,true,true,true,true,true,true,true,true,false,true,false]) [vbool b1453,vi (IntKind.wrap ı (Int.add x1454 1)),vs s1455,vi x1456,vb x1457,AV.ptr 0 0 0 0,AV.ptr 3 0 0 0,vbool b1458,AV.ptr 5 0 0 0,AV.ptr 6 0 0 0,AV.ptr 7 0 0 0,AV.ptr 8 0 0 0,AV.list 0 9 l1459,vi x1460] [Ob.mk OK.box 24 5 0 [[vu x1461,vu x1462,vu x1463,vu x1464,vu x1465]],Ob.mk OK.box 32 9 0 [[vu x1466,vu x1467,vu x1468,vu x1469,vu x1470,vi x1471,AV.list 0 1 l1472,vbool b1473,AV.list 0 2 l1474]],Ob.mk OK.box 35 9 0 [[vi x1475,vi x1476,vi x1477,vi x1478,vi x1479,vi x1480,AV.list 0 1 l1481,AV.list 0 1 l1482,vbool b1483]],Ob.mk OK.box 37 3 0 [[vu x1484,vu x1485,vu x1486]],Ob.mk OK.box 32 9 0 [[vu x1487,vu x1488,vu x1489,vu x1490,vu x1491,vi x1492,AV.list 0 1 l1493,vbool b1494,AV.list 0 2 l1495]],Ob.mk OK.box 32 9 0 [[vu x1496,vu x1497,vu x1498,vu x1499,vu x1500,vi x1501,AV.list 0 1 l1502,vbool b1503,AV.list 0 2 l1504]],Ob.mk OK.box 41 12 0 [[vu x1505,vbool b1506,AV.list 0 2 l1507,vu x1508,vu x1509,vu x1510,vu x1511,vu x1512,vi x1513,AV.list 0 1 l1514,vbool b1515,AV.list 0 2 l1516]],Ob.mk OK.box 41 12 0 [[vu x1517,vbool b1518,AV.list 0 2 l1519,vu x1520,vu x1521,vu x1522,vu x1523,vu x1524,vi x1525,AV.list 0 1 l1526,vbool b1527,AV.list 0 2 l1528]],Ob.mk OK.box 41 12 0 [[vu x1529,vbool b1530,AV.list 0 2 l1531,vu x1532,vu x1533,vu x1534,vu x1535,vu x1536,vi x1537,AV.list 0 1 l1538,vbool b1539,AV.list 0 2 l1540]]] else none else some (Out.jump (JX.exit 0) [vbool b1453,vi x1454],[Ob.mk OK.box 24 5 0 [[vu x1461,vu x1462,vu x1463,vu x1464,vu x1465]],Ob.mk OK.box 32 9 0 [[vu x1466,vu x1467,vu x1468,vu x1469,vu x1470,vi x1471,AV.list 0 1 l1472,vbool b1473,AV.list 0 2 l1474]],Ob.mk OK.box 35 9 0 [[vi x1475,vi x1476,vi x1477,vi x1478,vi x1479,vi x1480,AV.list 0 1 l1481,AV.list 0 1 l1482,vbool b1483]],Ob.mk OK.box 37 3 0 [[vu x1484,vu x1485,vu x1486]],Ob.mk OK.box 32 9 0 [[vu x1487,vu x1488,vu x1489,vu x1490,vu x1491,vi x1492,AV.list 0 1 l1493,vbool b1494,AV.list 0 2 l1495]],Ob.mk OK.box 32 9 0 [[vu x1496,vu x1497,vu x1498,vu x1499,vu x1500,vi x1501,AV.list 0 1 l1502,vbool b1503,AV.list 0 2 l1504]],Ob.mk OK.box 41 12 0 [[vu x1505,vbool b1506,AV.list 0 2 l1507,vu x1508,vu x1509,vu x1510,vu x1511,vu x1512,vi x1513,AV.list 0 1 l1514,vbool b1515,AV.list 0 2 l1516]],Ob.mk OK.box 41 12 0 [[vu x1517,vbool b1518,AV.list 0 2 l1519,vu x1520,vu x1521,vu x1522,vu x1523,vu x1524,vi x1525,AV.list 0 1 l1526,vbool b1527,AV.list 0 2 l1528]],Ob.mk OK.box 41 12 0 [[vu x1529,vbool b1530,AV.list 0 2 l1531,vu x1532,vu x1533,vu x1534,vu x1535,vu x1536,vi x1537,AV.list 0 1 l1538,vbool b1539,AV.list 0 2 l1540]]]):=by
 intros
 exact(E_ov f5_true [87] _ _ _).trans (by kernel_rfl)
noncomputable def q3_l1_0:Int →
 Int →
 Int →
 Int →
 Int →
 Int →
 Int →
 Int →
 Int →
 Int →
 Int →
 Int →
 List (List AV) →
 Bool →
 List (List AV) →
 Int →
 Int →
 Int →
 Int →
 Int →
 Int →
 List (List AV) →
 List (List AV) →
 Bool →
 Int →
 Int →
 Int →
 Int →
 Int →
 Int →
 Int →
 Int →
 Int →
 List (List AV) →
 Bool →
 List (List AV) →
 Int →
 Int →
 Int →
 Int →
 Int →
 Int →
 List (List AV) →
 Bool →
 List (List AV) →
 Int →
 Bool →
 List (List AV) →
 Int →
 Int →
 Int →
 Int →
 Int →
 Int →
 List (List AV) →
 Bool →
 List (List AV) →
 Int →
 Bool →
 List (List AV) →
 Int →
 Int →
 Int →
 Int →
 Int →
 Int →
 List
 (List AV) →
 Bool →
 List
 (List
 AV) →
 Int →
 Bool →
 List
 (List
 AV) →
 Int →
 Int →
 Int →
 Int →
 Int →
 Int →
 List
 (List
 AV) →
 Bool →
 List
 (List
 AV) →
 Option
 (Out ×
 Heap) :=
 fun x1578 x1585 x1586 x1587 x1588 x1589 x1590 x1591 x1592 x1593 x1594 x1595 l1596 b1597 l1598 x1599 x1600 x1601 x1602 x1603 x1604 l1605 l1606 b1607 x1608 x1609
 x1610 x1611 x1612 x1613 x1614 x1615 x1616 l1617 b1618 l1619 x1620 x1621 x1622 x1623 x1624 x1625 l1626 b1627 l1628 x1629 b1630 l1631 x1632 x1633 x1634 x1635
 x1636 x1637 l1638 b1639 l1640 x1641 b1642 l1643 x1644 x1645 x1646 x1647 x1648 x1649 l1650 b1651 l1652 x1653 b1654 l1655 x1656 x1657 x1658 x1659 x1660 x1661
 l1662 b1663 l1664 ↦
 some
 (Out.jump JX.ret [vbool false,vi x1578],
 [Ob.mk OK.box 24 5 0
 [[vu x1585,vu x1586,vu x1587,vu x1588,vu x1589]],
 Ob.mk OK.box 32 9 0
 [[vu x1590,vu x1591,vu x1592,vu x1593,vu x1594,vi x1595,
 AV.list 0 1 l1596,vbool b1597,AV.list 0 2 l1598]],
 Ob.mk OK.box 35 9 0
 [[vi x1599,vi x1600,vi x1601,vi x1602,vi x1603,vi x1604,
 AV.list 0 1 l1605,AV.list 0 1 l1606,vbool b1607]],
 Ob.mk OK.box 37 3 0 [[vu x1608,vu x1609,vu x1610]],
 Ob.mk OK.box 32 9 0
 [[vu x1611,vu x1612,vu x1613,vu x1614,vu x1615,vi x1616,
 AV.list 0 1 l1617,vbool b1618,AV.list 0 2 l1619]],
 Ob.mk OK.box 32 9 0
 [[vu x1620,vu x1621,vu x1622,vu x1623,vu x1624,vi x1625,
 AV.list 0 1 l1626,vbool b1627,AV.list 0 2 l1628]],
 Ob.mk OK.box 41 12 0
 [[vu x1629,vbool b1630,AV.list 0 2 l1631,vu x1632,vu x1633,
 vu x1634,vu x1635,vu x1636,vi x1637,AV.list 0 1 l1638,
 vbool b1639,AV.list 0 2 l1640]],
 Ob.mk OK.box 41 12 0
 [[vu x1641,vbool b1642,AV.list 0 2 l1643,vu x1644,vu x1645,
 vu x1646,vu x1647,vu x1648,vi x1649,AV.list 0 1 l1650,
 vbool b1651,AV.list 0 2 l1652]],
 Ob.mk OK.box 41 12 0
 [[vu x1653,vbool b1654,AV.list 0 2 l1655,vu x1656,vu x1657,
 vu x1658,vu x1659,vu x1660,vi x1661,AV.list 0 1 l1662,
 vbool b1663,AV.list 0 2 l1664]]])
theorem f3_l1:∀(b1577:Bool) (x1578:Int) (s1579:ByteArray) (x1580 x1581:Int) (b1582:Bool) (l1583:List (List AV)) (x1584 x1585 x1586 x1587 x1588 x1589 x1590 x1591 x1592 x1593 x1594 x1595:Int) (l1596:List (List AV)) (b1597:Bool) (l1598:List (List AV)) (x1599 x1600 x1601 x1602 x1603 x1604:Int) (l1605 l1606:List (List AV)) (b1607:Bool) (x1608 x1609 x1610 x1611 x1612 x1613 x1614 x1615 x1616:Int) (l1617:List (List AV)) (b1618:Bool) (l1619:List (List AV)) (x1620 x1621 x1622 x1623 x1624 x1625:Int) (l1626:List (List AV)) (b1627:Bool) (l1628:List (List AV)) (x1629:Int) (b1630:Bool) (l1631:List (List AV)) (x1632 x1633 x1634 x1635 x1636 x1637:Int) (l1638:List (List AV)) (b1639:Bool) (l1640:List (List AV)) (x1641:Int) (b1642:Bool) (l1643:List (List AV)) (x1644 x1645 x1646 x1647 x1648 x1649:Int) (l1650:List (List AV)) (b1651:Bool) (l1652:List (List AV)) (x1653:Int) (b1654:Bool) (l1655:List (List AV)) (x1656 x1657 x1658 x1659 x1660 x1661:Int) (l1662:List (List AV)) (b1663:Bool) (l1664:List (List AV)),E cx (Key.loop 3 [true,true,true,true,true,true,true,true,true,true,true,true,false,true,false]) [vbool b1577,vi x1578,vs s1579,vi x1580,vb x1581,AV.ptr 0 0 0 0,AV.ptr 3 0 0 0,vbool b1582,AV.ptr 5 0 0 0,AV.ptr 6 0 0 0,AV.list 0 12 l1583,vi x1584] [Ob.mk OK.box 24 5 0 [[vu x1585,vu x1586,vu x1587,vu x1588,vu x1589]],Ob.mk OK.box 32 9 0 [[vu x1590,vu x1591,vu x1592,vu x1593,vu x1594,vi x1595,AV.list 0 1 l1596,vbool b1597,AV.list 0 2 l1598]],Ob.mk OK.box 35 9 0 [[vi x1599,vi x1600,vi x1601,vi x1602,vi x1603,vi x1604,AV.list 0 1 l1605,AV.list 0 1 l1606,vbool b1607]],Ob.mk OK.box 37 3 0 [[vu x1608,vu x1609,vu x1610]],Ob.mk OK.box 32 9 0 [[vu x1611,vu x1612,vu x1613,vu x1614,vu x1615,vi x1616,AV.list 0 1 l1617,vbool b1618,AV.list 0 2 l1619]],Ob.mk OK.box 32 9 0 [[vu x1620,vu x1621,vu x1622,vu x1623,vu x1624,vi x1625,AV.list 0 1 l1626,vbool b1627,AV.list 0 2 l1628]],Ob.mk OK.box 41 12 0 [[vu x1629,vbool b1630,AV.list 0 2 l1631,vu x1632,vu x1633,vu x1634,vu x1635,vu x1636,vi x1637,AV.list 0 1 l1638,vbool b1639,AV.list 0 2 l1640]],Ob.mk OK.box 41 12 0 [[vu x1641,vbool b1642,AV.list 0 2 l1643,vu x1644,vu x1645,vu x1646,vu x1647,vu x1648,vi x1649,AV.list 0 1 l1650,vbool b1651,AV.list 0 2 l1652]],Ob.mk OK.box 41 12 0 [[vu x1653,vbool b1654,AV.list 0 2 l1655,vu x1656,vu x1657,vu x1658,vu x1659,vu x1660,vi x1661,AV.list 0 1 l1662,vbool b1663,AV.list 0 2 l1664]]]=bif decide (x1578<x1584) then if 0≤x1578 then Ω l1583[τ x1578]? fun cs1665↦Ω (uncons? cs1665) fun p1666↦Ω (AV.int? υ p1666.fst) fun n1667↦Ω (uncons? p1666.snd) fun p1668↦Ω (AV.bool? p1668.fst) fun b1669↦Ω (uncons? p1668.snd) fun p1670↦Ω (AV.list? 2 p1670.fst) fun es1671↦Ω (uncons? p1670.snd) fun p1672↦Ω (AV.int? υ p1672.fst) fun n1673↦Ω (uncons? p1672.snd) fun p1674↦Ω (AV.int? υ p1674.fst) fun n1675↦Ω (uncons? p1674.snd) fun p1676↦Ω (AV.int? υ p1676.fst) fun n1677↦Ω (uncons? p1676.snd) fun p1678↦Ω (AV.int? υ p1678.fst) fun n1679↦Ω (uncons? p1678.snd) fun p1680↦Ω (AV.int? υ p1680.fst) fun n1681↦Ω (uncons? p1680.snd) fun p1682↦Ω (AV.int? ı p1682.fst) fun n1683↦Ω (uncons? p1682.snd) fun p1684↦Ω (AV.list? 1 p1684.fst) fun es1685↦Ω (uncons? p1684.snd) fun p1686↦Ω (AV.bool? p1686.fst) fun b1687↦Ω (uncons? p1686.snd) fun p1688↦Ω (AV.list? 2 p1688.fst) fun es1689↦Ω (nil? p1688.snd) fun _↦Ω (E cx (Key.fn 10) [AV.agg [vu n1667,vbool b1669,AV.list 0 2 es1671,vu n1673,vu n1675,vu n1677,vu n1679,vu n1681,vi n1683,AV.list 0 1 es1685,vbool b1687,AV.list 0 2 es1689]] []) fun r1691↦Ω (ret1 r1691) fun v1692↦Ω (AV.tup? v1692) fun vs1693↦Ω (uncons? vs1693) fun p1694↦Ω (AV.str? p1694.fst) fun s1695↦Ω (uncons? p1694.snd) fun p1696↦Ω (AV.int? ı p1696.fst) fun n1697↦Ω (nil? p1696.snd) fun _↦Ω (E cx (Key.fn 11) [AV.agg [vu n1667,vbool b1669,AV.list 0 2 es1671,vu n1673,vu n1675,vu n1677,vu n1679,vu n1681,vi n1683,AV.list 0 1 es1685,vbool b1687,AV.list 0 2 es1689]] []) fun r1699↦Ω (ret1 r1699) fun v1700↦Ω (AV.tup? v1700) fun vs1701↦Ω (uncons? vs1701) fun p1702↦Ω (AV.str? p1702.fst) fun s1703↦Ω (uncons? p1702.snd) fun p1704↦Ω (AV.int? ı p1704.fst) fun n1705↦Ω (nil? p1704.snd) fun _↦bif !List.beq (ByteArray.toList s1695) (ByteArray.toList s1703) then q3_l1_0 x1578 x1585 x1586 x1587 x1588 x1589 x1590 x1591 x1592 x1593 x1594 x1595 l1596 b1597 l1598 x1599 x1600 x1601 x1602 x1603 x1604 l1605 l1606 b1607 x1608 x1609 x1610 x1611 x1612 x1613 x1614 x1615 x1616 l1617 b1618 l1619 x1620 x1621 x1622 x1623 x1624 x1625 l1626 b1627 l1628 x1629 b1630 l1631 x1632 x1633 x1634 x1635 x1636 x1637 l1638 b1639 l1640 x1641 b1642 l1643 x1644 x1645 x1646 x1647 x1648 x1649 l1650 b1651 l1652 x1653 b1654 l1655 x1656 x1657 x1658 x1659 x1660 x1661 l1662 b1663 l1664 else bif n1697 !=n1705 then q3_l1_0 x1578 x1585 x1586 x1587 x1588 x1589 x1590 x1591 x1592 x1593 x1594 x1595 l1596 b1597 l1598 x1599 x1600 x1601 x1602 x1603 x1604 l1605 l1606 b1607 x1608 x1609 x1610 x1611 x1612 x1613 x1614 x1615 x1616 l1617 b1618 l1619 x1620 x1621 x1622 x1623 x1624 x1625 l1626 b1627 l1628 x1629 b1630 l1631 x1632 x1633 x1634 x1635 x1636 x1637 l1638 b1639 l1640 x1641 b1642 l1643 x1644 x1645 x1646 x1647 x1648 x1649 l1650 b1651 l1652 x1653 b1654 l1655 x1656 x1657 x1658 x1659 x1660 x1661 l1662 b1663 l1664 else E cx (Key.loop 3 [true,true,true,true,true,true,true,true,true,true,true,true,false,true,false]) [vbool b1577,vi (IntKind.wrap ı (Int.add x1578 1)),vs s1579,vi x1580,vb x1581,AV.ptr 0 0 0 0,AV.ptr 3 0 0 0,vbool b1582,AV.ptr 5 0 0 0,AV.ptr 6 0 0 0,AV.list 0 12 l1583,vi x1584] [Ob.mk OK.box 24 5 0 [[vu x1585,vu x1586,vu x1587,vu x1588,vu x1589]],Ob.mk OK.box 32 9 0 [[vu x1590,vu x1591,vu x1592,vu x1593,vu x1594,vi x1595,AV.list 0 1 l1596,vbool b1597,AV.list 0 2 l1598]],Ob.mk OK.box 35 9 0 [[vi x1599,vi x1600,vi x1601,vi x1602,vi x1603,vi x1604,AV.list 0 1 l1605,AV.list 0 1 l1606,vbool b1607]],Ob.mk OK.box 37 3 0 [[vu x1608,vu x1609,vu x1610]],Ob.mk OK.box 32 9 0 [[vu x1611,vu x1612,vu x1613,vu x1614,vu x1615,vi x1616,AV.list 0 1 l1617,vbool b1618,AV.list 0 2 l1619]],Ob.mk OK.box 32 9 0 [[vu x1620,vu x1621,vu x1622,vu x1623,vu x1624,vi x1625,AV.list 0 1 l1626,vbool b1627,AV.list 0 2 l1628]],Ob.mk OK.box 41 12 0 [[vu x1629,vbool b1630,AV.list 0 2 l1631,vu x1632,vu x1633,vu x1634,vu x1635,vu x1636,vi x1637,AV.list 0 1 l1638,vbool b1639,AV.list 0 2 l1640]],Ob.mk OK.box 41 12 0 [[vu x1641,vbool b1642,AV.list 0 2 l1643,vu x1644,vu x1645,vu x1646,vu x1647,vu x1648,vi x1649,AV.list 0 1 l1650,vbool b1651,AV.list 0 2 l1652]],Ob.mk OK.box 41 12 0 [[vu x1653,vbool b1654,AV.list 0 2 l1655,vu x1656,vu x1657,vu x1658,vu x1659,vu x1660,vi x1661,AV.list 0 1 l1662,vbool b1663,AV.list 0 2 l1664]]] else none else some (Out.jump (JX.exit 2) [vbool b1577,vi x1578],[Ob.mk OK.box 24 5 0 [[vu x1585,vu x1586,vu x1587,vu x1588,vu x1589]],Ob.mk OK.box 32 9 0 [[vu x1590,vu x1591,vu x1592,vu x1593,vu x1594,vi x1595,AV.list 0 1 l1596,vbool b1597,AV.list 0 2 l1598]],Ob.mk OK.box 35 9 0 [[vi x1599,vi x1600,vi x1601,vi x1602,vi x1603,vi x1604,AV.list 0 1 l1605,AV.list 0 1 l1606,vbool b1607]],Ob.mk OK.box 37 3 0 [[vu x1608,vu x1609,vu x1610]],Ob.mk OK.box 32 9 0 [[vu x1611,vu x1612,vu x1613,vu x1614,vu x1615,vi x1616,AV.list 0 1 l1617,vbool b1618,AV.list 0 2 l1619]],Ob.mk OK.box 32 9 0 [[vu x1620,vu x1621,vu x1622,vu x1623,vu x1624,vi x1625,AV.list 0 1 l1626,vbool b1627,AV.list 0 2 l1628]],Ob.mk OK.box 41 12 0 [[vu x1629,vbool b1630,AV.list 0 2 l1631,vu x1632,vu x1633,vu x1634,vu x1635,vu x1636,vi x1637,AV.list 0 1 l1638,vbool b1639,AV.list 0 2 l1640]],Ob.mk OK.box 41 12 0 [[vu x1641,vbool b1642,AV.list 0 2 l1643,vu x1644,vu x1645,vu x1646,vu x1647,vu x1648,vi x1649,AV.list 0 1 l1650,vbool b1651,AV.list 0 2 l1652]],Ob.mk OK.box 41 12 0 [[vu x1653,vbool b1654,AV.list 0 2 l1655,vu x1656,vu x1657,vu x1658,vu x1659,vu x1660,vi x1661,AV.list 0 1 l1662,vbool b1663,AV.list 0 2 l1664]]]):=by
 intros
 exact(E_ov f5_true [87] _ _ _).trans (by kernel_rfl)
noncomputable def q3_l2_0:Int →
 Int →
 Int →
 Int →
 Int →
 Int →
 Int →
 Int →
 Int →
 Int →
 Int →
 Int →
 List (List AV) →
 Bool →
 List (List AV) →
 Int →
 Int →
 Int →
 Int →
 Int →
 Int →
 List (List AV) →
 List (List AV) →
 Bool →
 Int →
 Int →
 Int →
 Int →
 Int →
 Int →
 Int →
 Int →
 Int →
 List (List AV) →
 Bool →
 List (List AV) →
 Int →
 Int →
 Int →
 Int →
 Int →
 Int →
 List (List AV) →
 Bool →
 List (List AV) →
 Int →
 Bool →
 List (List AV) →
 Int →
 Int →
 Int →
 Int →
 Int →
 Int →
 List (List AV) →
 Bool →
 List (List AV) →
 Int →
 Bool →
 List (List AV) →
 Int →
 Int →
 Int →
 Int →
 Int →
 Int →
 List
 (List AV) →
 Bool →
 List
 (List
 AV) →
 Int →
 Bool →
 List
 (List
 AV) →
 Int →
 Int →
 Int →
 Int →
 Int →
 Int →
 List
 (List
 AV) →
 Bool →
 List
 (List
 AV) →
 Option
 (Out ×
 Heap) :=
 fun x1708 x1712 x1713 x1714 x1715 x1716 x1717 x1718 x1719 x1720 x1721 x1722 l1723 b1724 l1725 x1726 x1727 x1728 x1729 x1730 x1731 l1732 l1733 b1734 x1735 x1736
 x1737 x1738 x1739 x1740 x1741 x1742 x1743 l1744 b1745 l1746 x1747 x1748 x1749 x1750 x1751 x1752 l1753 b1754 l1755 x1756 b1757 l1758 x1759 x1760 x1761 x1762
 x1763 x1764 l1765 b1766 l1767 x1768 b1769 l1770 x1771 x1772 x1773 x1774 x1775 x1776 l1777 b1778 l1779 x1780 b1781 l1782 x1783 x1784 x1785 x1786 x1787 x1788
 l1789 b1790 l1791 ↦
 some
 (Out.jump JX.ret [vbool false,vi x1708],
 [Ob.mk OK.box 24 5 0
 [[vu x1712,vu x1713,vu x1714,vu x1715,vu x1716]],
 Ob.mk OK.box 32 9 0
 [[vu x1717,vu x1718,vu x1719,vu x1720,vu x1721,vi x1722,
 AV.list 0 1 l1723,vbool b1724,AV.list 0 2 l1725]],
 Ob.mk OK.box 35 9 0
 [[vi x1726,vi x1727,vi x1728,vi x1729,vi x1730,vi x1731,
 AV.list 0 1 l1732,AV.list 0 1 l1733,vbool b1734]],
 Ob.mk OK.box 37 3 0 [[vu x1735,vu x1736,vu x1737]],
 Ob.mk OK.box 32 9 0
 [[vu x1738,vu x1739,vu x1740,vu x1741,vu x1742,vi x1743,
 AV.list 0 1 l1744,vbool b1745,AV.list 0 2 l1746]],
 Ob.mk OK.box 32 9 0
 [[vu x1747,vu x1748,vu x1749,vu x1750,vu x1751,vi x1752,
 AV.list 0 1 l1753,vbool b1754,AV.list 0 2 l1755]],
 Ob.mk OK.box 41 12 0
 [[vu x1756,vbool b1757,AV.list 0 2 l1758,vu x1759,vu x1760,
 vu x1761,vu x1762,vu x1763,vi x1764,AV.list 0 1 l1765,
 vbool b1766,AV.list 0 2 l1767]],
 Ob.mk OK.box 41 12 0
 [[vu x1768,vbool b1769,AV.list 0 2 l1770,vu x1771,vu x1772,
 vu x1773,vu x1774,vu x1775,vi x1776,AV.list 0 1 l1777,
 vbool b1778,AV.list 0 2 l1779]],
 Ob.mk OK.box 41 12 0
 [[vu x1780,vbool b1781,AV.list 0 2 l1782,vu x1783,vu x1784,
 vu x1785,vu x1786,vu x1787,vi x1788,AV.list 0 1 l1789,
 vbool b1790,AV.list 0 2 l1791]]])
theorem f3_l2:∀(b1707:Bool) (x1708:Int) (b1709:Bool) (l1710:List (List AV)) (x1711 x1712 x1713 x1714 x1715 x1716 x1717 x1718 x1719 x1720 x1721 x1722:Int) (l1723:List (List AV)) (b1724:Bool) (l1725:List (List AV)) (x1726 x1727 x1728 x1729 x1730 x1731:Int) (l1732 l1733:List (List AV)) (b1734:Bool) (x1735 x1736 x1737 x1738 x1739 x1740 x1741 x1742 x1743:Int) (l1744:List (List AV)) (b1745:Bool) (l1746:List (List AV)) (x1747 x1748 x1749 x1750 x1751 x1752:Int) (l1753:List (List AV)) (b1754:Bool) (l1755:List (List AV)) (x1756:Int) (b1757:Bool) (l1758:List (List AV)) (x1759 x1760 x1761 x1762 x1763 x1764:Int) (l1765:List (List AV)) (b1766:Bool) (l1767:List (List AV)) (x1768:Int) (b1769:Bool) (l1770:List (List AV)) (x1771 x1772 x1773 x1774 x1775 x1776:Int) (l1777:List (List AV)) (b1778:Bool) (l1779:List (List AV)) (x1780:Int) (b1781:Bool) (l1782:List (List AV)) (x1783 x1784 x1785 x1786 x1787 x1788:Int) (l1789:List (List AV)) (b1790:Bool) (l1791:List (List AV)),E cx (Key.loop 3 [true,true,true,true,true,true,true,true,true,true,true,true,true,true,true,true,false,true,false]) [vbool b1707,vi x1708,AV.ptr 0 0 0 0,AV.ptr 3 0 0 0,vbool b1709,AV.list 0 1 l1710,vi x1711] [Ob.mk OK.box 24 5 0 [[vu x1712,vu x1713,vu x1714,vu x1715,vu x1716]],Ob.mk OK.box 32 9 0 [[vu x1717,vu x1718,vu x1719,vu x1720,vu x1721,vi x1722,AV.list 0 1 l1723,vbool b1724,AV.list 0 2 l1725]],Ob.mk OK.box 35 9 0 [[vi x1726,vi x1727,vi x1728,vi x1729,vi x1730,vi x1731,AV.list 0 1 l1732,AV.list 0 1 l1733,vbool b1734]],Ob.mk OK.box 37 3 0 [[vu x1735,vu x1736,vu x1737]],Ob.mk OK.box 32 9 0 [[vu x1738,vu x1739,vu x1740,vu x1741,vu x1742,vi x1743,AV.list 0 1 l1744,vbool b1745,AV.list 0 2 l1746]],Ob.mk OK.box 32 9 0 [[vu x1747,vu x1748,vu x1749,vu x1750,vu x1751,vi x1752,AV.list 0 1 l1753,vbool b1754,AV.list 0 2 l1755]],Ob.mk OK.box 41 12 0 [[vu x1756,vbool b1757,AV.list 0 2 l1758,vu x1759,vu x1760,vu x1761,vu x1762,vu x1763,vi x1764,AV.list 0 1 l1765,vbool b1766,AV.list 0 2 l1767]],Ob.mk OK.box 41 12 0 [[vu x1768,vbool b1769,AV.list 0 2 l1770,vu x1771,vu x1772,vu x1773,vu x1774,vu x1775,vi x1776,AV.list 0 1 l1777,vbool b1778,AV.list 0 2 l1779]],Ob.mk OK.box 41 12 0 [[vu x1780,vbool b1781,AV.list 0 2 l1782,vu x1783,vu x1784,vu x1785,vu x1786,vu x1787,vi x1788,AV.list 0 1 l1789,vbool b1790,AV.list 0 2 l1791]]]=bif decide (x1708<x1711) then if 0≤x1708 then Ω l1710[τ x1708]? fun cs1792↦Ω (uncons? cs1792) fun p1793↦Ω (AV.str? p1793.fst) fun s1794↦Ω (nil? p1793.snd) fun _↦Ω (E cx (Key.fn 14) [vs s1794] []) fun r1796↦Ω (ret1 r1796) fun v1797↦Ω (AV.tup? v1797) fun vs1798↦Ω (uncons? vs1798) fun p1799↦Ω (AV.cells? p1799.fst) fun cs1800↦Ω (uncons? cs1800) fun p1801↦Ω (AV.int? υ p1801.fst) fun n1802↦Ω (uncons? p1801.snd) fun p1803↦Ω (AV.int? υ p1803.fst) fun n1804↦Ω (uncons? p1803.snd) fun p1805↦Ω (AV.int? υ p1805.fst) fun n1806↦Ω (uncons? p1805.snd) fun p1807↦Ω (AV.int? υ p1807.fst) fun n1808↦Ω (uncons? p1807.snd) fun p1809↦Ω (AV.int? υ p1809.fst) fun n1810↦Ω (uncons? p1809.snd) fun p1811↦Ω (AV.int? ı p1811.fst) fun n1812↦Ω (uncons? p1811.snd) fun p1813↦Ω (AV.list? 1 p1813.fst) fun es1814↦Ω (uncons? p1813.snd) fun p1815↦Ω (AV.bool? p1815.fst) fun b1816↦Ω (uncons? p1815.snd) fun p1817↦Ω (AV.list? 2 p1817.fst) fun es1818↦Ω (nil? p1817.snd) fun _↦Ω (uncons? p1799.snd) fun p1820↦Ω (AV.int? ı p1820.fst) fun n1821↦Ω (nil? p1820.snd) fun _↦Ω (E cx (Key.fn 15) [vs s1794] []) fun r1823↦Ω (ret1 r1823) fun v1824↦Ω (AV.tup? v1824) fun vs1825↦Ω (uncons? vs1825) fun p1826↦Ω (AV.cells? p1826.fst) fun cs1827↦Ω (uncons? cs1827) fun p1828↦Ω (AV.int? υ p1828.fst) fun n1829↦Ω (uncons? p1828.snd) fun p1830↦Ω (AV.int? υ p1830.fst) fun n1831↦Ω (uncons? p1830.snd) fun p1832↦Ω (AV.int? υ p1832.fst) fun n1833↦Ω (uncons? p1832.snd) fun p1834↦Ω (AV.int? υ p1834.fst) fun n1835↦Ω (uncons? p1834.snd) fun p1836↦Ω (AV.int? υ p1836.fst) fun n1837↦Ω (uncons? p1836.snd) fun p1838↦Ω (AV.int? ı p1838.fst) fun n1839↦Ω (uncons? p1838.snd) fun p1840↦Ω (AV.list? 1 p1840.fst) fun es1841↦Ω (uncons? p1840.snd) fun p1842↦Ω (AV.bool? p1842.fst) fun b1843↦Ω (uncons? p1842.snd) fun p1844↦Ω (AV.list? 2 p1844.fst) fun es1845↦Ω (nil? p1844.snd) fun _↦Ω (uncons? p1826.snd) fun p1847↦Ω (AV.int? ı p1847.fst) fun n1848↦Ω (nil? p1847.snd) fun _↦Ω (E cx (Key.fn 16) [vs s1794] []) fun r1850↦Ω (ret1 r1850) fun v1851↦Ω (AV.tup? v1851) fun vs1852↦Ω (uncons? vs1852) fun p1853↦Ω (AV.cells? p1853.fst) fun cs1854↦Ω (uncons? cs1854) fun p1855↦Ω (AV.int? υ p1855.fst) fun n1856↦Ω (uncons? p1855.snd) fun p1857↦Ω (AV.bool? p1857.fst) fun b1858↦Ω (uncons? p1857.snd) fun p1859↦Ω (AV.list? 2 p1859.fst) fun es1860↦Ω (uncons? p1859.snd) fun p1861↦Ω (AV.int? υ p1861.fst) fun n1862↦Ω (uncons? p1861.snd) fun p1863↦Ω (AV.int? υ p1863.fst) fun n1864↦Ω (uncons? p1863.snd) fun p1865↦Ω (AV.int? υ p1865.fst) fun n1866↦Ω (uncons? p1865.snd) fun p1867↦Ω (AV.int? υ p1867.fst) fun n1868↦Ω (uncons? p1867.snd) fun p1869↦Ω (AV.int? υ p1869.fst) fun n1870↦Ω (uncons? p1869.snd) fun p1871↦Ω (AV.int? ı p1871.fst) fun n1872↦Ω (uncons? p1871.snd) fun p1873↦Ω (AV.list? 1 p1873.fst) fun es1874↦Ω (uncons? p1873.snd) fun p1875↦Ω (AV.bool? p1875.fst) fun b1876↦Ω (uncons? p1875.snd) fun p1877↦Ω (AV.list? 2 p1877.fst) fun es1878↦Ω (nil? p1877.snd) fun _↦Ω (uncons? p1853.snd) fun p1880↦Ω (AV.int? ı p1880.fst) fun n1881↦Ω (nil? p1880.snd) fun _↦Ω (E cx (Key.fn 17) [vs s1794] []) fun r1883↦Ω (ret1 r1883) fun v1884↦Ω (AV.tup? v1884) fun vs1885↦Ω (uncons? vs1885) fun p1886↦Ω (AV.cells? p1886.fst) fun cs1887↦Ω (uncons? cs1887) fun p1888↦Ω (AV.int? υ p1888.fst) fun n1889↦Ω (uncons? p1888.snd) fun p1890↦Ω (AV.bool? p1890.fst) fun b1891↦Ω (uncons? p1890.snd) fun p1892↦Ω (AV.list? 2 p1892.fst) fun es1893↦Ω (uncons? p1892.snd) fun p1894↦Ω (AV.int? υ p1894.fst) fun n1895↦Ω (uncons? p1894.snd) fun p1896↦Ω (AV.int? υ p1896.fst) fun n1897↦Ω (uncons? p1896.snd) fun p1898↦Ω (AV.int? υ p1898.fst) fun n1899↦Ω (uncons? p1898.snd) fun p1900↦Ω (AV.int? υ p1900.fst) fun n1901↦Ω (uncons? p1900.snd) fun p1902↦Ω (AV.int? υ p1902.fst) fun n1903↦Ω (uncons? p1902.snd) fun p1904↦Ω (AV.int? ı p1904.fst) fun n1905↦Ω (uncons? p1904.snd) fun p1906↦Ω (AV.list? 1 p1906.fst) fun es1907↦Ω (uncons? p1906.snd) fun p1908↦Ω (AV.bool? p1908.fst) fun b1909↦Ω (uncons? p1908.snd) fun p1910↦Ω (AV.list? 2 p1910.fst) fun es1911↦Ω (nil? p1910.snd) fun _↦Ω (uncons? p1886.snd) fun p1913↦Ω (AV.int? ı p1913.fst) fun n1914↦Ω (nil? p1913.snd) fun _↦Ω (E cx (Key.fn 18) [vs s1794] []) fun r1916↦Ω (ret1 r1916) fun v1917↦Ω (AV.tup? v1917) fun vs1918↦Ω (uncons? vs1918) fun p1919↦Ω (AV.cells? p1919.fst) fun cs1920↦Ω (uncons? cs1920) fun p1921↦Ω (AV.int? υ p1921.fst) fun n1922↦Ω (uncons? p1921.snd) fun p1923↦Ω (AV.int? υ p1923.fst) fun n1924↦Ω (uncons? p1923.snd) fun p1925↦Ω (AV.int? υ p1925.fst) fun n1926↦Ω (nil? p1925.snd) fun _↦Ω (uncons? p1919.snd) fun p1928↦Ω (AV.int? ı p1928.fst) fun n1929↦Ω (nil? p1928.snd) fun _↦Ω (E cx (Key.fn 19) [vs s1794] []) fun r1931↦Ω (ret1 r1931) fun v1932↦Ω (AV.tup? v1932) fun vs1933↦Ω (uncons? vs1933) fun p1934↦Ω (AV.cells? p1934.fst) fun cs1935↦Ω (uncons? cs1935) fun p1936↦Ω (AV.int? υ p1936.fst) fun n1937↦Ω (uncons? p1936.snd) fun p1938↦Ω (AV.int? υ p1938.fst) fun n1939↦Ω (uncons? p1938.snd) fun p1940↦Ω (AV.int? υ p1940.fst) fun n1941↦Ω (nil? p1940.snd) fun _↦Ω (uncons? p1934.snd) fun p1943↦Ω (AV.int? ı p1943.fst) fun n1944↦Ω (nil? p1943.snd) fun _↦bif n1821 !=n1848 then q3_l2_0 x1708 x1712 x1713 x1714 x1715 x1716 x1717 x1718 x1719 x1720 x1721 x1722 l1723 b1724 l1725 x1726 x1727 x1728 x1729 x1730 x1731 l1732 l1733 b1734 x1735 x1736 x1737 x1738 x1739 x1740 x1741 x1742 x1743 l1744 b1745 l1746 x1747 x1748 x1749 x1750 x1751 x1752 l1753 b1754 l1755 x1756 b1757 l1758 x1759 x1760 x1761 x1762 x1763 x1764 l1765 b1766 l1767 x1768 b1769 l1770 x1771 x1772 x1773 x1774 x1775 x1776 l1777 b1778 l1779 x1780 b1781 l1782 x1783 x1784 x1785 x1786 x1787 x1788 l1789 b1790 l1791 else Ω (E cx (Key.fn 20) [AV.agg [vu n1802,vu n1804,vu n1806,vu n1808,vu n1810,vi n1812,AV.list 0 1 es1814,vbool b1816,AV.list 0 2 es1818],AV.agg [vu n1829,vu n1831,vu n1833,vu n1835,vu n1837,vi n1839,AV.list 0 1 es1841,vbool b1843,AV.list 0 2 es1845]] []) fun r1946↦Ω (ret1 r1946) fun v1947↦Ω (AV.bool? v1947) fun b1948↦bif b1948 then bif n1881 !=n1914 then q3_l2_0 x1708 x1712 x1713 x1714 x1715 x1716 x1717 x1718 x1719 x1720 x1721 x1722 l1723 b1724 l1725 x1726 x1727 x1728 x1729 x1730 x1731 l1732 l1733 b1734 x1735 x1736 x1737 x1738 x1739 x1740 x1741 x1742 x1743 l1744 b1745 l1746 x1747 x1748 x1749 x1750 x1751 x1752 l1753 b1754 l1755 x1756 b1757 l1758 x1759 x1760 x1761 x1762 x1763 x1764 l1765 b1766 l1767 x1768 b1769 l1770 x1771 x1772 x1773 x1774 x1775 x1776 l1777 b1778 l1779 x1780 b1781 l1782 x1783 x1784 x1785 x1786 x1787 x1788 l1789 b1790 l1791 else Ω (E cx (Key.fn 21) [AV.agg [vu n1856,vbool b1858,AV.list 0 2 es1860,vu n1862,vu n1864,vu n1866,vu n1868,vu n1870,vi n1872,AV.list 0 1 es1874,vbool b1876,AV.list 0 2 es1878],AV.agg [vu n1889,vbool b1891,AV.list 0 2 es1893,vu n1895,vu n1897,vu n1899,vu n1901,vu n1903,vi n1905,AV.list 0 1 es1907,vbool b1909,AV.list 0 2 es1911]] []) fun r1949↦Ω (ret1 r1949) fun v1950↦Ω (AV.bool? v1950) fun b1951↦bif b1951 then bif !(decide (n1922=n1937)&&(decide (n1924=n1939)&&(decide (n1926=n1941)&&true))) then q3_l2_0 x1708 x1712 x1713 x1714 x1715 x1716 x1717 x1718 x1719 x1720 x1721 x1722 l1723 b1724 l1725 x1726 x1727 x1728 x1729 x1730 x1731 l1732 l1733 b1734 x1735 x1736 x1737 x1738 x1739 x1740 x1741 x1742 x1743 l1744 b1745 l1746 x1747 x1748 x1749 x1750 x1751 x1752 l1753 b1754 l1755 x1756 b1757 l1758 x1759 x1760 x1761 x1762 x1763 x1764 l1765 b1766 l1767 x1768 b1769 l1770 x1771 x1772 x1773 x1774 x1775 x1776 l1777 b1778 l1779 x1780 b1781 l1782 x1783 x1784 x1785 x1786 x1787 x1788 l1789 b1790 l1791 else bif n1929 !=n1944 then q3_l2_0 x1708 x1712 x1713 x1714 x1715 x1716 x1717 x1718 x1719 x1720 x1721 x1722 l1723 b1724 l1725 x1726 x1727 x1728 x1729 x1730 x1731 l1732 l1733 b1734 x1735 x1736 x1737 x1738 x1739 x1740 x1741 x1742 x1743 l1744 b1745 l1746 x1747 x1748 x1749 x1750 x1751 x1752 l1753 b1754 l1755 x1756 b1757 l1758 x1759 x1760 x1761 x1762 x1763 x1764 l1765 b1766 l1767 x1768 b1769 l1770 x1771 x1772 x1773 x1774 x1775 x1776 l1777 b1778 l1779 x1780 b1781 l1782 x1783 x1784 x1785 x1786 x1787 x1788 l1789 b1790 l1791 else E cx (Key.loop 3 [true,true,true,true,true,true,true,true,true,true,true,true,true,true,true,true,false,true,false]) [vbool b1707,vi (IntKind.wrap ı (Int.add x1708 1)),AV.ptr 0 0 0 0,AV.ptr 3 0 0 0,vbool b1709,AV.list 0 1 l1710,vi x1711] [Ob.mk OK.box 24 5 0 [[vu x1712,vu x1713,vu x1714,vu x1715,vu x1716]],Ob.mk OK.box 32 9 0 [[vu x1717,vu x1718,vu x1719,vu x1720,vu x1721,vi x1722,AV.list 0 1 l1723,vbool b1724,AV.list 0 2 l1725]],Ob.mk OK.box 35 9 0 [[vi x1726,vi x1727,vi x1728,vi x1729,vi x1730,vi x1731,AV.list 0 1 l1732,AV.list 0 1 l1733,vbool b1734]],Ob.mk OK.box 37 3 0 [[vu x1735,vu x1736,vu x1737]],Ob.mk OK.box 32 9 0 [[vu x1738,vu x1739,vu x1740,vu x1741,vu x1742,vi x1743,AV.list 0 1 l1744,vbool b1745,AV.list 0 2 l1746]],Ob.mk OK.box 32 9 0 [[vu x1747,vu x1748,vu x1749,vu x1750,vu x1751,vi x1752,AV.list 0 1 l1753,vbool b1754,AV.list 0 2 l1755]],Ob.mk OK.box 41 12 0 [[vu x1756,vbool b1757,AV.list 0 2 l1758,vu x1759,vu x1760,vu x1761,vu x1762,vu x1763,vi x1764,AV.list 0 1 l1765,vbool b1766,AV.list 0 2 l1767]],Ob.mk OK.box 41 12 0 [[vu x1768,vbool b1769,AV.list 0 2 l1770,vu x1771,vu x1772,vu x1773,vu x1774,vu x1775,vi x1776,AV.list 0 1 l1777,vbool b1778,AV.list 0 2 l1779]],Ob.mk OK.box 41 12 0 [[vu x1780,vbool b1781,AV.list 0 2 l1782,vu x1783,vu x1784,vu x1785,vu x1786,vu x1787,vi x1788,AV.list 0 1 l1789,vbool b1790,AV.list 0 2 l1791]]] else q3_l2_0 x1708 x1712 x1713 x1714 x1715 x1716 x1717 x1718 x1719 x1720 x1721 x1722 l1723 b1724 l1725 x1726 x1727 x1728 x1729 x1730 x1731 l1732 l1733 b1734 x1735 x1736 x1737 x1738 x1739 x1740 x1741 x1742 x1743 l1744 b1745 l1746 x1747 x1748 x1749 x1750 x1751 x1752 l1753 b1754 l1755 x1756 b1757 l1758 x1759 x1760 x1761 x1762 x1763 x1764 l1765 b1766 l1767 x1768 b1769 l1770 x1771 x1772 x1773 x1774 x1775 x1776 l1777 b1778 l1779 x1780 b1781 l1782 x1783 x1784 x1785 x1786 x1787 x1788 l1789 b1790 l1791 else q3_l2_0 x1708 x1712 x1713 x1714 x1715 x1716 x1717 x1718 x1719 x1720 x1721 x1722 l1723 b1724 l1725 x1726 x1727 x1728 x1729 x1730 x1731 l1732 l1733 b1734 x1735 x1736 x1737 x1738 x1739 x1740 x1741 x1742 x1743 l1744 b1745 l1746 x1747 x1748 x1749 x1750 x1751 x1752 l1753 b1754 l1755 x1756 b1757 l1758 x1759 x1760 x1761 x1762 x1763 x1764 l1765 b1766 l1767 x1768 b1769 l1770 x1771 x1772 x1773 x1774 x1775 x1776 l1777 b1778 l1779 x1780 b1781 l1782 x1783 x1784 x1785 x1786 x1787 x1788 l1789 b1790 l1791 else none else some (Out.jump (JX.exit 4) [vbool b1707,vi x1708],[Ob.mk OK.box 24 5 0 [[vu x1712,vu x1713,vu x1714,vu x1715,vu x1716]],Ob.mk OK.box 32 9 0 [[vu x1717,vu x1718,vu x1719,vu x1720,vu x1721,vi x1722,AV.list 0 1 l1723,vbool b1724,AV.list 0 2 l1725]],Ob.mk OK.box 35 9 0 [[vi x1726,vi x1727,vi x1728,vi x1729,vi x1730,vi x1731,AV.list 0 1 l1732,AV.list 0 1 l1733,vbool b1734]],Ob.mk OK.box 37 3 0 [[vu x1735,vu x1736,vu x1737]],Ob.mk OK.box 32 9 0 [[vu x1738,vu x1739,vu x1740,vu x1741,vu x1742,vi x1743,AV.list 0 1 l1744,vbool b1745,AV.list 0 2 l1746]],Ob.mk OK.box 32 9 0 [[vu x1747,vu x1748,vu x1749,vu x1750,vu x1751,vi x1752,AV.list 0 1 l1753,vbool b1754,AV.list 0 2 l1755]],Ob.mk OK.box 41 12 0 [[vu x1756,vbool b1757,AV.list 0 2 l1758,vu x1759,vu x1760,vu x1761,vu x1762,vu x1763,vi x1764,AV.list 0 1 l1765,vbool b1766,AV.list 0 2 l1767]],Ob.mk OK.box 41 12 0 [[vu x1768,vbool b1769,AV.list 0 2 l1770,vu x1771,vu x1772,vu x1773,vu x1774,vu x1775,vi x1776,AV.list 0 1 l1777,vbool b1778,AV.list 0 2 l1779]],Ob.mk OK.box 41 12 0 [[vu x1780,vbool b1781,AV.list 0 2 l1782,vu x1783,vu x1784,vu x1785,vu x1786,vu x1787,vi x1788,AV.list 0 1 l1789,vbool b1790,AV.list 0 2 l1791]]]):=by
 intros
 exact(E_ov f5_true [87] _ _ _).trans (by kernel_rfl)
end Go.Proofs.Av
