/- The small functions' trees. -/
import Derived.Test.YtogopainnioiiaaDoorAwX
set_option maxRecDepth 100000
namespace Go.Proofs.Av
open Go
theorem f12 : E cx (Key.fn 12) [] [] =
 Option.bind (E cx (Key.fn 18) [AV.agg [vi 1, vi 4, vi 1, vi 1, vi 10, vi 0, vi 1, vi 0, vi 1, vu 0], vi 39] []) fun r2818 ↦
 Option.bind (ret1 r2818) fun v2819 ↦
 Option.bind (AV.tup? v2819) fun vs2820 ↦
 Option.bind (uncons? vs2820) fun p2821 ↦
 Option.bind (AV.int? IntKind.i64 p2821.fst) fun n2822 ↦
 Option.bind (uncons? p2821.snd) fun p2823 ↦
 Option.bind (AV.int? IntKind.i64 p2823.fst) fun n2824 ↦
 Option.bind (nil? p2823.snd) fun _ ↦
 Option.bind (E cx (Key.fn 20) [AV.agg [vi 1, vi 4, vi 1, vi 1, vi 10, vi 0, vi 1, vi 0, vi 1, vu 0], vi 3] []) fun r2826 ↦
 Option.bind (ret1 r2826) fun v2827 ↦
 Option.bind (AV.tup? v2827) fun vs2828 ↦
 Option.bind (uncons? vs2828) fun p2829 ↦
 Option.bind (AV.int? IntKind.i64 p2829.fst) fun n2830 ↦
 Option.bind (uncons? p2829.snd) fun p2831 ↦
 Option.bind (AV.int? IntKind.i64 p2831.fst) fun n2832 ↦
 Option.bind (nil? p2831.snd) fun _ ↦
 Option.bind (E cx (Key.fn 22) [AV.agg [vi 1, vi 4, vi 1, vi 1, vi 10, vi 0, vi 1, vi 0, vi 1, vu 0], vi 3] [])
 fun r2834 ↦
 Option.bind (ret1 r2834) fun v2835 ↦
 Option.bind (AV.tup? v2835) fun vs2836 ↦
 Option.bind (uncons? vs2836) fun p2837 ↦
 Option.bind (AV.int? IntKind.i64 p2837.fst) fun n2838 ↦
 Option.bind (uncons? p2837.snd) fun p2839 ↦
 Option.bind (AV.int? IntKind.i64 p2839.fst) fun n2840 ↦
 Option.bind (nil? p2839.snd) fun _ ↦
 Option.bind
 (E cx (Key.fn 24) [AV.agg [vi 1, vi 4, vi 1, vi 1, vi 10, vi 0, vi 1, vi 0, vi 1, vu 0], vi 2]
 [])
 fun r2842 ↦
 Option.bind (ret1 r2842) fun v2843 ↦
 Option.bind (AV.tup? v2843) fun vs2844 ↦
 Option.bind (uncons? vs2844) fun p2845 ↦
 Option.bind (AV.int? IntKind.i64 p2845.fst) fun n2846 ↦
 Option.bind (uncons? p2845.snd) fun p2847 ↦
 Option.bind (AV.int? IntKind.i64 p2847.fst) fun n2848 ↦
 Option.bind (nil? p2847.snd) fun _ ↦
 Option.bind
 (E cx (Key.fn 26)
 [AV.agg [vi 1, vi 4, vi 1, vi 1, vi 10, vi 0, vi 1, vi 0, vi 1, vu 0], vi 1099511627776,
 vi 1]
 [])
 fun r2850 ↦
 Option.bind (ret1 r2850) fun v2851 ↦
 Option.bind (AV.tup? v2851) fun vs2852 ↦
 Option.bind (uncons? vs2852) fun p2853 ↦
 Option.bind (AV.int? IntKind.i64 p2853.fst) fun _ ↦
 Option.bind (uncons? p2853.snd) fun p2855 ↦
 Option.bind (AV.int? IntKind.i64 p2855.fst) fun n2856 ↦
 Option.bind (nil? p2855.snd) fun _ ↦
 Option.bind
 (E cx (Key.fn 26)
 [AV.agg [vi 1, vi 4, vi 1, vi 1, vi 10, vi 0, vi 1, vi 0, vi 1, vu 0],
 vi 5, vi 6]
 [])
 fun r2858 ↦
 Option.bind (ret1 r2858) fun v2859 ↦
 Option.bind (AV.tup? v2859) fun vs2860 ↦
 Option.bind (uncons? vs2860) fun p2861 ↦
 Option.bind (AV.int? IntKind.i64 p2861.fst) fun n2862 ↦
 Option.bind (uncons? p2861.snd) fun p2863 ↦
 Option.bind (AV.int? IntKind.i64 p2863.fst) fun n2864 ↦
 Option.bind (nil? p2863.snd) fun _ ↦
 Option.bind
 (E cx (Key.fn 20)
 [AV.agg
 [vi 1, vi 4, vi 1, vi 1, vi 10, vi 0, vi 1, vi 0,
 vi 1, vu 0],
 vi 1099511627776]
 [])
 fun r2866 ↦
 Option.bind (ret1 r2866) fun v2867 ↦
 Option.bind (AV.tup? v2867) fun vs2868 ↦
 Option.bind (uncons? vs2868) fun p2869 ↦
 Option.bind (AV.int? IntKind.i64 p2869.fst)
 fun _ ↦
 Option.bind (uncons? p2869.snd) fun p2871 ↦
 Option.bind (AV.int? IntKind.i64 p2871.fst)
 fun n2872 ↦
 Option.bind (nil? p2871.snd) fun _ ↦
 Option.bind
 (E cx (Key.fn 18)
 [AV.agg
 [vi 0, vi 0, vi 0, vi 0, vi 0, vi 0,
 vi 0, vi 0, vi 0, vu 0],
 vi 0]
 [])
 fun r2874 ↦
 Option.bind (ret1 r2874) fun v2875 ↦
 Option.bind (AV.tup? v2875) fun vs2876 ↦
 Option.bind (uncons? vs2876) fun p2877 ↦
 Option.bind
 (AV.int? IntKind.i64 p2877.fst)
 fun _ ↦
 Option.bind (uncons? p2877.snd)
 fun p2879 ↦
 Option.bind
 (AV.int? IntKind.i64
 p2879.fst)
 fun n2880 ↦
 Option.bind (nil? p2879.snd)
 fun _ ↦
 Option.bind
 (E cx
 (Key.fn 15)
 [AV.agg
 [vi 1, vi 4, vi 1,
 vi 1, vi 10, vi 0,
 vi 1, vi 0, vi 1,
 vu 0]]
 [])
 fun r2882 ↦
 Option.bind (ret1 r2882)
 fun v2883 ↦
 Option.bind
 (AV.bool? v2883)
 fun b2884 ↦
 bif b2884 then
 Option.bind
 (E cx
 (Key.fn 15)
 [AV.agg
 [vi 0, vi 0,
 vi 0, vi 0,
 vi 0, vi 0,
 vi 0, vi 0,
 vi 0, vu 0]]
 [])
 fun r2885 ↦
 Option.bind
 (ret1 r2885)
 fun v2886 ↦
 Option.bind
 (AV.bool? v2886)
 fun b2887 ↦
 bif b2887 then
 some
 (Out.ret
 (vbool
 false),
 [])
 else
 bif
 decide
 (n2824 =
 0) then
 bif
 decide
 (n2822 =
 3) then
 bif
 decide
 (n2832 =
 0) then
 bif
 decide
 (n2830 =
 30) then
 bif
 decide
 (n2840 =
 0) then
 bif
 decide
 (n2838 =
 0) then
 bif
 decide
 (n2848 =
 0) then
 bif
 decide
 (n2846 =
 8) then
 bif
 decide
 (n2856 =
 8) then
 bif
 decide
 (n2864 =
 0) then
 bif
 decide
 (n2862 =
 11) then
 bif
 decide
 (n2872 =
 8) then
 bif
 decide
 (n2880 =
 1) then
 some
 (Out.ret
 (vbool
 true),
 [])
 else
 some
 (Out.ret
 (vbool
 false),
 [])
 else
 some
 (Out.ret
 (vbool
 false),
 [])
 else
 some
 (Out.ret
 (vbool
 false),
 [])
 else
 some
 (Out.ret
 (vbool
 false),
 [])
 else
 some
 (Out.ret
 (vbool
 false),
 [])
 else
 some
 (Out.ret
 (vbool
 false),
 [])
 else
 some
 (Out.ret
 (vbool
 false),
 [])
 else
 some
 (Out.ret
 (vbool
 false),
 [])
 else
 some
 (Out.ret
 (vbool
 false),
 [])
 else
 some
 (Out.ret
 (vbool
 false),
 [])
 else
 some
 (Out.ret
 (vbool
 false),
 [])
 else
 some
 (Out.ret
 (vbool
 false),
 [])
 else
 some
 (Out.ret
 (vbool
 false),
 [])
 else
 some
 (Out.ret
 (vbool false),
 []) := by
  intros
  exact (E_fast _ _ _ _).trans (by kernel_rfl)


theorem f13 : ∀ (n2888 n2889 n2890 n2891 n2892 n2893 seed2894 : Int),
 E cx (Key.fn 13) [AV.agg [vi n2888, vi n2889, vi n2890, vi n2891, vi n2892, vi n2893], vu seed2894] [] =
 Option.bind (E cx (Key.fn 17) [vi n2890, vi 12] []) fun r2895 ↦
 Option.bind (ret1 r2895) fun v2896 ↦
 Option.bind (AV.int? IntKind.i64 v2896) fun n2897 ↦
 Option.bind (E cx (Key.fn 17) [vi n2888, vi 60] []) fun r2898 ↦
 Option.bind (ret1 r2898) fun v2899 ↦
 Option.bind (AV.int? IntKind.i64 v2899) fun n2900 ↦
 Option.bind (E cx (Key.fn 17) [vi n2889, vi 6] []) fun r2901 ↦
 Option.bind (ret1 r2901) fun v2902 ↦
 Option.bind (AV.int? IntKind.i64 v2902) fun n2903 ↦
 Option.bind (E cx (Key.fn 17) [vi (IntKind.wrap IntKind.i64 (Int.tdiv n2889 8)), vi 4] []) fun r2904 ↦
 Option.bind (ret1 r2904) fun v2905 ↦
 Option.bind (AV.int? IntKind.i64 v2905) fun n2906 ↦
 Option.bind (E cx (Key.fn 17) [vi n2891, vi 9] []) fun r2907 ↦
 Option.bind (ret1 r2907) fun v2908 ↦
 Option.bind (AV.int? IntKind.i64 v2908) fun n2909 ↦
 Option.bind
 (E cx (Key.fn 17)
 [vi (IntKind.wrap IntKind.i64 (Int.tdiv n2890 16)),
 vi (IntKind.wrap IntKind.i64 (Int.add (IntKind.wrap IntKind.i64 (Int.add 1 n2897)) 1))]
 [])
 fun r2910 ↦
 Option.bind (ret1 r2910) fun v2911 ↦
 Option.bind (AV.int? IntKind.i64 v2911) fun n2912 ↦
 Option.bind (E cx (Key.fn 17) [vi n2892, vi 8] []) fun r2913 ↦
 Option.bind (ret1 r2913) fun v2914 ↦
 Option.bind (AV.int? IntKind.i64 v2914) fun n2915 ↦
 Option.bind (E cx (Key.fn 17) [vi n2893, vi 12] []) fun r2916 ↦
 Option.bind (ret1 r2916) fun v2917 ↦
 Option.bind (AV.int? IntKind.i64 v2917) fun n2918 ↦
 Option.bind
 (E cx (Key.fn 17) [vi (IntKind.wrap IntKind.i64 (Int.tdiv n2893 16)), vi 4] [])
 fun r2919 ↦
 Option.bind (ret1 r2919) fun v2920 ↦
 Option.bind (AV.int? IntKind.i64 v2920) fun n2921 ↦
 some
 (Out.ret
 (AV.agg
 [vi (IntKind.wrap IntKind.i64 (Int.add 1 n2900)),
 vi (IntKind.wrap IntKind.i64 (Int.add 1 n2903)),
 vi (IntKind.wrap IntKind.i64 (Int.add 1 n2906)),
 vi (IntKind.wrap IntKind.i64 (Int.add 1 n2909)),
 vi (IntKind.wrap IntKind.i64 (Int.add 1 n2897)), vi n2912,
 vi (IntKind.wrap IntKind.i64 (Int.add 1 n2915)), vi n2918,
 vi (IntKind.wrap IntKind.i64 (Int.add 1 n2921)), vu seed2894]),
 []) := by
  intros
  exact (E_fast _ _ _ _).trans (by kernel_rfl)


theorem f14 : ∀ (c2922 c2923 c2924 c2925 c2926 c2927 c2928 c2929 c2930 c2931 which2932 x2933 : Int),
 E cx (Key.fn 14)
 [AV.agg [vi c2922, vi c2923, vi c2924, vi c2925, vi c2926, vi c2927, vi c2928, vi c2929, vi c2930, vu c2931], vi which2932, vi x2933] [] =
 Option.bind (E cx (Key.fn 17) [vi which2932, vi 9] []) fun r2934 ↦
 Option.bind (ret1 r2934) fun v2935 ↦
 Option.bind (AV.int? IntKind.i64 v2935) fun n2936 ↦
 bif decide (n2936 = 0) then
 some (Out.ret (AV.agg [vi x2933, vi c2923, vi c2924, vi c2925, vi c2926, vi c2927, vi c2928, vi c2929, vi c2930, vu c2931]), [])
 else
 bif decide (n2936 = 1) then
 some (Out.ret (AV.agg [vi c2922, vi x2933, vi c2924, vi c2925, vi c2926, vi c2927, vi c2928, vi c2929, vi c2930, vu c2931]), [])
 else
 bif decide (n2936 = 2) then
 some (Out.ret (AV.agg [vi c2922, vi c2923, vi x2933, vi c2925, vi c2926, vi c2927, vi c2928, vi c2929, vi c2930, vu c2931]), [])
 else
 bif decide (n2936 = 3) then
 some (Out.ret (AV.agg [vi c2922, vi c2923, vi c2924, vi x2933, vi c2926, vi c2927, vi c2928, vi c2929, vi c2930, vu c2931]), [])
 else
 bif decide (n2936 = 4) then
 some (Out.ret (AV.agg [vi c2922, vi c2923, vi c2924, vi c2925, vi x2933, vi c2927, vi c2928, vi c2929, vi c2930, vu c2931]), [])
 else
 bif decide (n2936 = 5) then
 some (Out.ret (AV.agg [vi c2922, vi c2923, vi c2924, vi c2925, vi c2926, vi x2933, vi c2928, vi c2929, vi c2930, vu c2931]), [])
 else
 bif decide (n2936 = 6) then
 some (Out.ret (AV.agg [vi c2922, vi c2923, vi c2924, vi c2925, vi c2926, vi c2927, vi x2933, vi c2929, vi c2930, vu c2931]), [])
 else
 bif decide (n2936 = 7) then
 some (Out.ret (AV.agg [vi c2922, vi c2923, vi c2924, vi c2925, vi c2926, vi c2927, vi c2928, vi x2933, vi c2930, vu c2931]), [])
 else
 bif decide (n2936 = 8) then
 some (Out.ret (AV.agg [vi c2922, vi c2923, vi c2924, vi c2925, vi c2926, vi c2927, vi c2928, vi c2929, vi x2933, vu c2931]), [])
 else some (Out.ret (AV.agg [vi c2922, vi c2923, vi c2924, vi c2925, vi c2926, vi c2927, vi c2928, vi c2929, vi c2930, vu c2931]), []) := by
  intros
  exact (E_fast _ _ _ _).trans (by kernel_rfl)


theorem f15 : ∀ (c2937 c2938 c2939 c2940 c2941 c2942 c2943 c2944 c2945 c2946 : Int),
 E cx (Key.fn 15) [AV.agg [vi c2937, vi c2938, vi c2939, vi c2940, vi c2941, vi c2942, vi c2943, vi c2944, vi c2945, vu c2946]] [] =
 Option.bind (E cx (Key.fn 38) [vi c2937, vi 1, vi 1024] []) fun r2947 ↦
 Option.bind (ret1 r2947) fun v2948 ↦
 Option.bind (AV.bool? v2948) fun b2949 ↦
 bif b2949 then
 Option.bind (E cx (Key.fn 38) [vi c2938, vi 1, vi 32] []) fun r2950 ↦
 Option.bind (ret1 r2950) fun v2951 ↦
 Option.bind (AV.bool? v2951) fun b2952 ↦
 bif b2952 then
 Option.bind (E cx (Key.fn 38) [vi c2939, vi 1, vi 8] []) fun r2953 ↦
 Option.bind (ret1 r2953) fun v2954 ↦
 Option.bind (AV.bool? v2954) fun b2955 ↦
 bif b2955 then
 Option.bind (E cx (Key.fn 38) [vi c2940, vi 1, vi 64] []) fun r2956 ↦
 Option.bind (ret1 r2956) fun v2957 ↦
 Option.bind (AV.bool? v2957) fun b2958 ↦
 bif b2958 then
 Option.bind (E cx (Key.fn 38) [vi c2941, vi 1, vi 1000] []) fun r2959 ↦
 Option.bind (ret1 r2959) fun v2960 ↦
 Option.bind (AV.bool? v2960) fun b2961 ↦
 bif b2961 then
 Option.bind (E cx (Key.fn 38) [vi c2943, vi 1, vi 64] []) fun r2962 ↦
 Option.bind (ret1 r2962) fun v2963 ↦
 Option.bind (AV.bool? v2963) fun b2964 ↦
 bif b2964 then
 Option.bind (E cx (Key.fn 38) [vi c2944, vi 0, vi 90] []) fun r2965 ↦
 Option.bind (ret1 r2965) fun v2966 ↦
 Option.bind (AV.bool? v2966) fun b2967 ↦
 bif b2967 then
 Option.bind (E cx (Key.fn 38) [vi c2945, vi 1, vi 16] []) fun r2968 ↦
 Option.bind (ret1 r2968) fun v2969 ↦
 Option.bind (AV.bool? v2969) fun b2970 ↦
 bif b2970 then
 Option.bind (E cx (Key.fn 38) [vi c2942, vi 0, vi c2941] []) fun r2971 ↦
 Option.bind (ret1 r2971) fun v2972 ↦
 Option.bind (AV.bool? v2972) fun b2973 ↦
 bif b2973 then some (Out.ret (vbool true), []) else some (Out.ret (vbool false), [])
 else some (Out.ret (vbool false), [])
 else some (Out.ret (vbool false), [])
 else some (Out.ret (vbool false), [])
 else some (Out.ret (vbool false), [])
 else some (Out.ret (vbool false), [])
 else some (Out.ret (vbool false), [])
 else some (Out.ret (vbool false), [])
 else some (Out.ret (vbool false), []) := by
  intros
  exact (E_fast _ _ _ _).trans (by kernel_rfl)


theorem f16 : ∀ (c2974 c2975 c2976 c2977 c2978 c2979 c2980 c2981 c2982 c2983 : Int),
 E cx (Key.fn 16) [AV.agg [vi c2974, vi c2975, vi c2976, vi c2977, vi c2978, vi c2979, vi c2980, vi c2981, vi c2982, vu c2983]] [] =
 bif decide (c2974 < 1) then some (Out.ret (vbool false), [])
 else
 bif decide (c2974 > 1024) then some (Out.ret (vbool false), [])
 else
 bif decide (c2975 < 1) then some (Out.ret (vbool false), [])
 else
 bif decide (c2975 > 32) then some (Out.ret (vbool false), [])
 else
 bif decide (c2976 < 1) then some (Out.ret (vbool false), [])
 else
 bif decide (c2976 > 8) then some (Out.ret (vbool false), [])
 else
 bif decide (c2977 < 1) then some (Out.ret (vbool false), [])
 else
 bif decide (c2977 > 64) then some (Out.ret (vbool false), [])
 else
 bif decide (c2978 < 1) then some (Out.ret (vbool false), [])
 else
 bif decide (c2978 > 1000) then some (Out.ret (vbool false), [])
 else
 bif decide (c2979 < 0) then some (Out.ret (vbool false), [])
 else
 bif decide (c2979 > c2978) then some (Out.ret (vbool false), [])
 else
 bif decide (c2980 < 1) then some (Out.ret (vbool false), [])
 else
 bif decide (c2980 > 64) then some (Out.ret (vbool false), [])
 else
 bif decide (c2981 ≥ 0) then
 bif decide (c2981 ≤ 90) then
 bif decide (c2982 ≥ 1) then
 bif decide (c2982 ≤ 16) then some (Out.ret (vbool true), []) else some (Out.ret (vbool false), [])
 else some (Out.ret (vbool false), [])
 else some (Out.ret (vbool false), [])
 else some (Out.ret (vbool false), []) := by
  intros
  exact (E_fast _ _ _ _).trans (by kernel_rfl)


theorem f17 : ∀ (c2984 n2985 : Int),
 E cx (Key.fn 17) [vi c2984, vi n2985] [] =
 bif decide (c2984 < 0) then
 if n2985 = 0 then none
 else some (Out.ret (vi (Int.tmod (IntKind.wrap IntKind.i64 (Int.sub 0 (IntKind.wrap IntKind.i64 (Int.add c2984 1)))) n2985)), [])
 else if n2985 = 0 then none else some (Out.ret (vi (Int.tmod c2984 n2985)), []) := by
  intros
  exact (E_fast _ _ _ _).trans (by kernel_rfl)


theorem f18 : ∀ (c2986 c2987 c2988 c2989 c2990 c2991 c2992 c2993 c2994 c2995 tick2996 : Int),
 E cx (Key.fn 18) [AV.agg [vi c2986, vi c2987, vi c2988, vi c2989, vi c2990, vi c2991, vi c2992, vi c2993, vi c2994, vu c2995], vi tick2996] [] =
 Option.bind (E cx (Key.fn 15) [AV.agg [vi c2986, vi c2987, vi c2988, vi c2989, vi c2990, vi c2991, vi c2992, vi c2993, vi c2994, vu c2995]] [])
 fun r2997 ↦
 Option.bind (ret1 r2997) fun v2998 ↦
 Option.bind (AV.bool? v2998) fun b2999 ↦
 bif b2999 then
 Option.bind (E cx (Key.fn 38) [vi tick2996, vi 0, vi 1099511627776] []) fun r3000 ↦
 Option.bind (ret1 r3000) fun v3001 ↦
 Option.bind (AV.bool? v3001) fun b3002 ↦
 bif b3002 then if c2990 = 0 then none else some (Out.ret (AV.tuple [vi (IntKind.wrap IntKind.i64 (Int.tdiv tick2996 c2990)), vi 0]), [])
 else some (Out.ret (AV.tuple [vi 0, vi 1]), [])
 else some (Out.ret (AV.tuple [vi 0, vi 1]), []) := by
  intros
  exact (E_fast _ _ _ _).trans (by kernel_rfl)


theorem f19 : ∀ (c3003 c3004 c3005 c3006 c3007 c3008 c3009 c3010 c3011 c3012 t3013 : Int),
 E cx (Key.fn 19) [AV.agg [vi c3003, vi c3004, vi c3005, vi c3006, vi c3007, vi c3008, vi c3009, vi c3010, vi c3011, vu c3012], vi t3013] [] =
 Option.bind (E cx (Key.fn 16) [AV.agg [vi c3003, vi c3004, vi c3005, vi c3006, vi c3007, vi c3008, vi c3009, vi c3010, vi c3011, vu c3012]] [])
 fun r3014 ↦
 Option.bind (ret1 r3014) fun v3015 ↦
 Option.bind (AV.bool? v3015) fun b3016 ↦
 bif b3016 then
 Option.bind (E cx (Key.fn 39) [vi t3013] []) fun r3017 ↦
 Option.bind (ret1 r3017) fun v3018 ↦
 Option.bind (AV.bool? v3018) fun b3019 ↦
 bif b3019 then if c3007 = 0 then none else some (Out.ret (AV.tuple [vi (IntKind.wrap IntKind.i64 (Int.tdiv t3013 c3007)), vi 0]), [])
 else some (Out.ret (AV.tuple [vi 0, vi 1]), [])
 else some (Out.ret (AV.tuple [vi 0, vi 1]), []) := by
  intros
  exact (E_fast _ _ _ _).trans (by kernel_rfl)


theorem f20 : ∀ (c3020 c3021 c3022 c3023 c3024 c3025 c3026 c3027 c3028 c3029 slot3030 : Int),
 E cx (Key.fn 20) [AV.agg [vi c3020, vi c3021, vi c3022, vi c3023, vi c3024, vi c3025, vi c3026, vi c3027, vi c3028, vu c3029], vi slot3030] [] =
 Option.bind (E cx (Key.fn 15) [AV.agg [vi c3020, vi c3021, vi c3022, vi c3023, vi c3024, vi c3025, vi c3026, vi c3027, vi c3028, vu c3029]] [])
 fun r3031 ↦
 Option.bind (ret1 r3031) fun v3032 ↦
 Option.bind (AV.bool? v3032) fun b3033 ↦
 bif b3033 then
 bif decide (slot3030 < 0) then some (Out.ret (AV.tuple [vi 0, vi 1]), [])
 else
 if c3024 = 0 then none
 else
 bif decide (slot3030 > IntKind.wrap IntKind.i64 (Int.tdiv 1099511627776 c3024)) then some (Out.ret (AV.tuple [vi 0, vi 8]), [])
 else some (Out.ret (AV.tuple [vi (IntKind.wrap IntKind.i64 (Int.mul slot3030 c3024)), vi 0]), [])
 else some (Out.ret (AV.tuple [vi 0, vi 1]), []) := by
  intros
  exact (E_fast _ _ _ _).trans (by kernel_rfl)


theorem f21 : ∀ (c3034 c3035 c3036 c3037 c3038 c3039 c3040 c3041 c3042 c3043 slot3044 : Int),
 E cx (Key.fn 21) [AV.agg [vi c3034, vi c3035, vi c3036, vi c3037, vi c3038, vi c3039, vi c3040, vi c3041, vi c3042, vu c3043], vi slot3044] [] =
 Option.bind (E cx (Key.fn 16) [AV.agg [vi c3034, vi c3035, vi c3036, vi c3037, vi c3038, vi c3039, vi c3040, vi c3041, vi c3042, vu c3043]] [])
 fun r3045 ↦
 Option.bind (ret1 r3045) fun v3046 ↦
 Option.bind (AV.bool? v3046) fun b3047 ↦
 bif b3047 then
 bif decide (slot3044 < 0) then some (Out.ret (AV.tuple [vi 0, vi 1]), [])
 else
 Option.bind (E cx (Key.fn 39) [vi slot3044] []) fun r3048 ↦
 Option.bind (ret1 r3048) fun v3049 ↦
 Option.bind (AV.bool? v3049) fun b3050 ↦
 bif b3050 then
 Option.bind (E cx (Key.fn 39) [vi (IntKind.wrap IntKind.i64 (Int.mul slot3044 c3038))] []) fun r3051 ↦
 Option.bind (ret1 r3051) fun v3052 ↦
 Option.bind (AV.bool? v3052) fun b3053 ↦
 bif b3053 then some (Out.ret (AV.tuple [vi (IntKind.wrap IntKind.i64 (Int.mul slot3044 c3038)), vi 0]), [])
 else some (Out.ret (AV.tuple [vi 0, vi 8]), [])
 else some (Out.ret (AV.tuple [vi 0, vi 8]), [])
 else some (Out.ret (AV.tuple [vi 0, vi 1]), []) := by
  intros
  exact (E_fast _ _ _ _).trans (by kernel_rfl)


theorem f22 : ∀ (c3054 c3055 c3056 c3057 c3058 c3059 c3060 c3061 c3062 c3063 slot3064 : Int),
 E cx (Key.fn 22) [AV.agg [vi c3054, vi c3055, vi c3056, vi c3057, vi c3058, vi c3059, vi c3060, vi c3061, vi c3062, vu c3063], vi slot3064] [] =
 Option.bind (E cx (Key.fn 15) [AV.agg [vi c3054, vi c3055, vi c3056, vi c3057, vi c3058, vi c3059, vi c3060, vi c3061, vi c3062, vu c3063]] [])
 fun r3065 ↦
 Option.bind (ret1 r3065) fun v3066 ↦
 Option.bind (AV.bool? v3066) fun b3067 ↦
 bif b3067 then
 bif decide (slot3064 < 0) then some (Out.ret (AV.tuple [vi 0, vi 1]), [])
 else if c3055 = 0 then none else some (Out.ret (AV.tuple [vi (IntKind.wrap IntKind.i64 (Int.tdiv slot3064 c3055)), vi 0]), [])
 else some (Out.ret (AV.tuple [vi 0, vi 1]), []) := by
  intros
  exact (E_fast _ _ _ _).trans (by kernel_rfl)


theorem f23 : ∀ (c3068 c3069 c3070 c3071 c3072 c3073 c3074 c3075 c3076 c3077 slot3078 : Int),
 E cx (Key.fn 23) [AV.agg [vi c3068, vi c3069, vi c3070, vi c3071, vi c3072, vi c3073, vi c3074, vi c3075, vi c3076, vu c3077], vi slot3078] [] =
 Option.bind (E cx (Key.fn 16) [AV.agg [vi c3068, vi c3069, vi c3070, vi c3071, vi c3072, vi c3073, vi c3074, vi c3075, vi c3076, vu c3077]] [])
 fun r3079 ↦
 Option.bind (ret1 r3079) fun v3080 ↦
 Option.bind (AV.bool? v3080) fun b3081 ↦
 bif b3081 then
 bif decide (slot3078 < 0) then some (Out.ret (AV.tuple [vi 0, vi 1]), [])
 else if c3069 = 0 then none else some (Out.ret (AV.tuple [vi (IntKind.wrap IntKind.i64 (Int.tdiv slot3078 c3069)), vi 0]), [])
 else some (Out.ret (AV.tuple [vi 0, vi 1]), []) := by
  intros
  exact (E_fast _ _ _ _).trans (by kernel_rfl)


theorem f24 : ∀ (c3082 c3083 c3084 c3085 c3086 c3087 c3088 c3089 c3090 c3091 epoch3092 : Int),
 E cx (Key.fn 24) [AV.agg [vi c3082, vi c3083, vi c3084, vi c3085, vi c3086, vi c3087, vi c3088, vi c3089, vi c3090, vu c3091], vi epoch3092] [] =
 Option.bind (E cx (Key.fn 15) [AV.agg [vi c3082, vi c3083, vi c3084, vi c3085, vi c3086, vi c3087, vi c3088, vi c3089, vi c3090, vu c3091]] [])
 fun r3093 ↦
 Option.bind (ret1 r3093) fun v3094 ↦
 Option.bind (AV.bool? v3094) fun b3095 ↦
 bif b3095 then
 bif decide (epoch3092 < 0) then some (Out.ret (AV.tuple [vi 0, vi 1]), [])
 else
 if c3086 = 0 then none
 else
 if c3083 = 0 then none
 else
 bif decide (epoch3092 > IntKind.wrap IntKind.i64 (Int.tdiv (IntKind.wrap IntKind.i64 (Int.tdiv 1099511627776 c3086)) c3083)) then
 some (Out.ret (AV.tuple [vi 0, vi 8]), [])
 else some (Out.ret (AV.tuple [vi (IntKind.wrap IntKind.i64 (Int.mul epoch3092 c3083)), vi 0]), [])
 else some (Out.ret (AV.tuple [vi 0, vi 1]), []) := by
  intros
  exact (E_fast _ _ _ _).trans (by kernel_rfl)


theorem f25 : ∀ (c3096 c3097 c3098 c3099 c3100 c3101 c3102 c3103 c3104 c3105 epoch3106 : Int),
 E cx (Key.fn 25) [AV.agg [vi c3096, vi c3097, vi c3098, vi c3099, vi c3100, vi c3101, vi c3102, vi c3103, vi c3104, vu c3105], vi epoch3106] [] =
 Option.bind (E cx (Key.fn 16) [AV.agg [vi c3096, vi c3097, vi c3098, vi c3099, vi c3100, vi c3101, vi c3102, vi c3103, vi c3104, vu c3105]] [])
 fun r3107 ↦
 Option.bind (ret1 r3107) fun v3108 ↦
 Option.bind (AV.bool? v3108) fun b3109 ↦
 bif b3109 then
 bif decide (epoch3106 < 0) then some (Out.ret (AV.tuple [vi 0, vi 1]), [])
 else
 Option.bind (E cx (Key.fn 39) [vi epoch3106] []) fun r3110 ↦
 Option.bind (ret1 r3110) fun v3111 ↦
 Option.bind (AV.bool? v3111) fun b3112 ↦
 bif b3112 then
 Option.bind
 (E cx (Key.fn 21)
 [AV.agg [vi c3096, vi c3097, vi c3098, vi c3099, vi c3100, vi c3101, vi c3102, vi c3103, vi c3104, vu c3105],
 vi (IntKind.wrap IntKind.i64 (Int.mul epoch3106 c3097))]
 [])
 fun r3113 ↦
 Option.bind (ret1 r3113) fun v3114 ↦
 Option.bind (AV.tup? v3114) fun vs3115 ↦
 Option.bind (uncons? vs3115) fun p3116 ↦
 Option.bind (AV.int? IntKind.i64 p3116.fst) fun _ ↦
 Option.bind (uncons? p3116.snd) fun p3118 ↦
 Option.bind (AV.int? IntKind.i64 p3118.fst) fun n3119 ↦
 Option.bind (nil? p3118.snd) fun _ ↦
 bif n3119 != 0 then some (Out.ret (AV.tuple [vi 0, vi 8]), [])
 else some (Out.ret (AV.tuple [vi (IntKind.wrap IntKind.i64 (Int.mul epoch3106 c3097)), vi 0]), [])
 else some (Out.ret (AV.tuple [vi 0, vi 8]), [])
 else some (Out.ret (AV.tuple [vi 0, vi 1]), []) := by
  intros
  exact (E_fast _ _ _ _).trans (by kernel_rfl)


theorem f26 : ∀ (c3121 c3122 c3123 c3124 c3125 c3126 c3127 c3128 c3129 c3130 tick3131 by3132 : Int),
 E cx (Key.fn 26)
 [AV.agg [vi c3121, vi c3122, vi c3123, vi c3124, vi c3125, vi c3126, vi c3127, vi c3128, vi c3129, vu c3130], vi tick3131, vi by3132] [] =
 Option.bind (E cx (Key.fn 15) [AV.agg [vi c3121, vi c3122, vi c3123, vi c3124, vi c3125, vi c3126, vi c3127, vi c3128, vi c3129, vu c3130]] [])
 fun r3133 ↦
 Option.bind (ret1 r3133) fun v3134 ↦
 Option.bind (AV.bool? v3134) fun b3135 ↦
 bif b3135 then
 Option.bind (E cx (Key.fn 38) [vi tick3131, vi 0, vi 1099511627776] []) fun r3136 ↦
 Option.bind (ret1 r3136) fun v3137 ↦
 Option.bind (AV.bool? v3137) fun b3138 ↦
 bif b3138 then
 bif decide (by3132 < 0) then some (Out.ret (AV.tuple [vi 0, vi 1]), [])
 else
 bif decide (by3132 > IntKind.wrap IntKind.i64 (Int.sub 1099511627776 tick3131)) then some (Out.ret (AV.tuple [vi 0, vi 8]), [])
 else some (Out.ret (AV.tuple [vi (IntKind.wrap IntKind.i64 (Int.add tick3131 by3132)), vi 0]), [])
 else some (Out.ret (AV.tuple [vi 0, vi 1]), [])
 else some (Out.ret (AV.tuple [vi 0, vi 1]), []) := by
  intros
  exact (E_fast _ _ _ _).trans (by kernel_rfl)


theorem f27 : ∀ (c3139 c3140 c3141 c3142 c3143 c3144 c3145 c3146 c3147 c3148 t3149 by3150 : Int),
 E cx (Key.fn 27)
 [AV.agg [vi c3139, vi c3140, vi c3141, vi c3142, vi c3143, vi c3144, vi c3145, vi c3146, vi c3147, vu c3148], vi t3149, vi by3150] [] =
 Option.bind (E cx (Key.fn 16) [AV.agg [vi c3139, vi c3140, vi c3141, vi c3142, vi c3143, vi c3144, vi c3145, vi c3146, vi c3147, vu c3148]] [])
 fun r3151 ↦
 Option.bind (ret1 r3151) fun v3152 ↦
 Option.bind (AV.bool? v3152) fun b3153 ↦
 bif b3153 then
 Option.bind (E cx (Key.fn 39) [vi t3149] []) fun r3154 ↦
 Option.bind (ret1 r3154) fun v3155 ↦
 Option.bind (AV.bool? v3155) fun b3156 ↦
 bif b3156 then
 bif decide (by3150 < 0) then some (Out.ret (AV.tuple [vi 0, vi 1]), [])
 else
 Option.bind (E cx (Key.fn 39) [vi by3150] []) fun r3157 ↦
 Option.bind (ret1 r3157) fun v3158 ↦
 Option.bind (AV.bool? v3158) fun b3159 ↦
 bif b3159 then
 Option.bind (E cx (Key.fn 39) [vi (IntKind.wrap IntKind.i64 (Int.add t3149 by3150))] []) fun r3160 ↦
 Option.bind (ret1 r3160) fun v3161 ↦
 Option.bind (AV.bool? v3161) fun b3162 ↦
 bif b3162 then some (Out.ret (AV.tuple [vi (IntKind.wrap IntKind.i64 (Int.add t3149 by3150)), vi 0]), [])
 else some (Out.ret (AV.tuple [vi 0, vi 8]), [])
 else some (Out.ret (AV.tuple [vi 0, vi 8]), [])
 else some (Out.ret (AV.tuple [vi 0, vi 1]), [])
 else some (Out.ret (AV.tuple [vi 0, vi 1]), []) := by
  intros
  exact (E_fast _ _ _ _).trans (by kernel_rfl)


theorem f28 : E cx (Key.fn 28) [] [] =
 Option.bind (E cx (Key.fn 30) [AV.agg [vi 1, vi 4, vi 1, vi 1, vi 10, vi 2, vi 3, vi 0, vi 1, vu 0], vi 4] []) fun r3163 ↦
 Option.bind (ret1 r3163) fun v3164 ↦
 Option.bind (AV.tup? v3164) fun vs3165 ↦
 Option.bind (uncons? vs3165) fun p3166 ↦
 Option.bind (AV.int? IntKind.i64 p3166.fst) fun n3167 ↦
 Option.bind (uncons? p3166.snd) fun p3168 ↦
 Option.bind (AV.int? IntKind.i64 p3168.fst) fun n3169 ↦
 Option.bind (nil? p3168.snd) fun _ ↦
 Option.bind (E cx (Key.fn 32) [AV.agg [vi 1, vi 4, vi 1, vi 1, vi 10, vi 2, vi 3, vi 0, vi 1, vu 0], vi 4] []) fun r3171 ↦
 Option.bind (ret1 r3171) fun v3172 ↦
 Option.bind (AV.tup? v3172) fun vs3173 ↦
 Option.bind (uncons? vs3173) fun p3174 ↦
 Option.bind (AV.int? IntKind.i64 p3174.fst) fun n3175 ↦
 Option.bind (uncons? p3174.snd) fun p3176 ↦
 Option.bind (AV.int? IntKind.i64 p3176.fst) fun n3177 ↦
 Option.bind (nil? p3176.snd) fun _ ↦
 Option.bind (E cx (Key.fn 36) [AV.agg [vi 1, vi 4, vi 1, vi 1, vi 10, vi 2, vi 3, vi 0, vi 1, vu 0], vi 38] [])
 fun r3179 ↦
 Option.bind (ret1 r3179) fun v3180 ↦
 Option.bind (AV.tup? v3180) fun vs3181 ↦
 Option.bind (uncons? vs3181) fun p3182 ↦
 Option.bind (AV.int? IntKind.i64 p3182.fst) fun n3183 ↦
 Option.bind (uncons? p3182.snd) fun p3184 ↦
 Option.bind (AV.int? IntKind.i64 p3184.fst) fun n3185 ↦
 Option.bind (uncons? p3184.snd) fun p3186 ↦
 Option.bind (AV.int? IntKind.i64 p3186.fst) fun n3187 ↦
 Option.bind (nil? p3186.snd) fun _ ↦
 Option.bind
 (E cx (Key.fn 36)
 [AV.agg [vi 1, vi 4, vi 1, vi 1, vi 10, vi 2, vi 3, vi 0, vi 1, vu 0], vi 42] [])
 fun r3189 ↦
 Option.bind (ret1 r3189) fun v3190 ↦
 Option.bind (AV.tup? v3190) fun vs3191 ↦
 Option.bind (uncons? vs3191) fun p3192 ↦
 Option.bind (AV.int? IntKind.i64 p3192.fst) fun n3193 ↦
 Option.bind (uncons? p3192.snd) fun p3194 ↦
 Option.bind (AV.int? IntKind.i64 p3194.fst) fun n3195 ↦
 Option.bind (uncons? p3194.snd) fun p3196 ↦
 Option.bind (AV.int? IntKind.i64 p3196.fst) fun n3197 ↦
 Option.bind (nil? p3196.snd) fun _ ↦
 Option.bind
 (E cx (Key.fn 34)
 [AV.agg [vi 1, vi 4, vi 1, vi 1, vi 10, vi 2, vi 3, vi 0, vi 1, vu 0], vi 82,
 vi 4]
 [])
 fun r3199 ↦
 Option.bind (ret1 r3199) fun v3200 ↦
 Option.bind (AV.tup? v3200) fun vs3201 ↦
 Option.bind (uncons? vs3201) fun p3202 ↦
 Option.bind (AV.int? IntKind.i64 p3202.fst) fun n3203 ↦
 Option.bind (uncons? p3202.snd) fun p3204 ↦
 Option.bind (AV.int? IntKind.i64 p3204.fst) fun n3205 ↦
 Option.bind (nil? p3204.snd) fun _ ↦
 Option.bind
 (E cx (Key.fn 34)
 [AV.agg
 [vi 1, vi 4, vi 1, vi 1, vi 10, vi 2, vi 3, vi 0, vi 1, vu 0],
 vi 37, vi 4]
 [])
 fun r3207 ↦
 Option.bind (ret1 r3207) fun v3208 ↦
 Option.bind (AV.tup? v3208) fun vs3209 ↦
 Option.bind (uncons? vs3209) fun p3210 ↦
 Option.bind (AV.int? IntKind.i64 p3210.fst) fun n3211 ↦
 Option.bind (uncons? p3210.snd) fun p3212 ↦
 Option.bind (AV.int? IntKind.i64 p3212.fst) fun n3213 ↦
 Option.bind (nil? p3212.snd) fun _ ↦
 Option.bind
 (E cx (Key.fn 34)
 [AV.agg
 [vi 1, vi 4, vi 1, vi 1, vi 10, vi 2, vi 3,
 vi 0, vi 1, vu 0],
 vi 38, vi 4]
 [])
 fun r3215 ↦
 Option.bind (ret1 r3215) fun v3216 ↦
 Option.bind (AV.tup? v3216) fun vs3217 ↦
 Option.bind (uncons? vs3217) fun p3218 ↦
 Option.bind (AV.int? IntKind.i64 p3218.fst)
 fun n3219 ↦
 Option.bind (uncons? p3218.snd) fun p3220 ↦
 Option.bind
 (AV.int? IntKind.i64 p3220.fst)
 fun n3221 ↦
 Option.bind (nil? p3220.snd) fun _ ↦
 Option.bind
 (E cx (Key.fn 30)
 [AV.agg
 [vi 1, vi 4, vi 1, vi 1,
 vi 10, vi 2, vi 3, vi 0,
 vi 1, vu 0],
 vi 1099511627776]
 [])
 fun r3223 ↦
 Option.bind (ret1 r3223) fun v3224 ↦
 Option.bind (AV.tup? v3224)
 fun vs3225 ↦
 Option.bind (uncons? vs3225)
 fun p3226 ↦
 Option.bind
 (AV.int? IntKind.i64
 p3226.fst)
 fun _ ↦
 Option.bind
 (uncons? p3226.snd)
 fun p3228 ↦
 Option.bind
 (AV.int? IntKind.i64
 p3228.fst)
 fun n3229 ↦
 Option.bind
 (nil? p3228.snd)
 fun _ ↦
 Option.bind
 (E cx
 (Key.fn 34)
 [AV.agg
 [vi 1, vi 4,
 vi 1, vi 1,
 vi 10, vi 2,
 vi 3, vi 0,
 vi 1, vu 0],
 vi
 1099511627777,
 vi 0]
 [])
 fun r3231 ↦
 Option.bind
 (ret1 r3231)
 fun v3232 ↦
 Option.bind
 (AV.tup? v3232)
 fun vs3233 ↦
 Option.bind
 (uncons?
 vs3233)
 fun p3234 ↦
 Option.bind
 (AV.int?
 IntKind.i64
 p3234.fst)
 fun _ ↦
 Option.bind
 (uncons?
 p3234.snd)
 fun
 p3236 ↦
 Option.bind
 (AV.int?
 IntKind.i64
 p3236.fst)
 fun
 n3237 ↦
 Option.bind
 (nil?
 p3236.snd)
 fun
 _ ↦
 bif
 decide
 (n3169 =
 0) then
 bif
 decide
 (n3167 =
 38) then
 bif
 decide
 (n3177 =
 0) then
 bif
 decide
 (n3175 =
 81) then
 bif
 decide
 (n3187 =
 0) then
 bif
 decide
 (n3183 =
 0) then
 bif
 decide
 (n3185 =
 4) then
 bif
 decide
 (n3197 =
 0) then
 bif
 decide
 (n3193 =
 1) then
 bif
 decide
 (n3195 =
 4) then
 bif
 decide
 (n3205 =
 0) then
 bif
 decide
 (n3203 =
 2) then
 bif
 decide
 (n3213 =
 0) then
 bif
 decide
 (n3211 =
 0) then
 bif
 decide
 (n3221 =
 0) then
 bif
 decide
 (n3219 =
 1) then
 bif
 decide
 (n3229 =
 8) then
 bif
 decide
 (n3237 =
 1) then
 some
 (Out.ret
 (vbool
 true),
 [])
 else
 some
 (Out.ret
 (vbool
 false),
 [])
 else
 some
 (Out.ret
 (vbool
 false),
 [])
 else
 some
 (Out.ret
 (vbool
 false),
 [])
 else
 some
 (Out.ret
 (vbool
 false),
 [])
 else
 some
 (Out.ret
 (vbool
 false),
 [])
 else
 some
 (Out.ret
 (vbool
 false),
 [])
 else
 some
 (Out.ret
 (vbool
 false),
 [])
 else
 some
 (Out.ret
 (vbool
 false),
 [])
 else
 some
 (Out.ret
 (vbool
 false),
 [])
 else
 some
 (Out.ret
 (vbool
 false),
 [])
 else
 some
 (Out.ret
 (vbool
 false),
 [])
 else
 some
 (Out.ret
 (vbool
 false),
 [])
 else
 some
 (Out.ret
 (vbool
 false),
 [])
 else
 some
 (Out.ret
 (vbool
 false),
 [])
 else
 some
 (Out.ret
 (vbool
 false),
 [])
 else
 some
 (Out.ret
 (vbool
 false),
 [])
 else
 some
 (Out.ret
 (vbool
 false),
 [])
 else
 some
 (Out.ret
 (vbool
 false),
 []) := by
  intros
  exact (E_fast _ _ _ _).trans (by kernel_rfl)


theorem f29 : ∀ (c3239 n3240 : Int),
 E cx (Key.fn 29) [vi c3239, vi n3240] [] =
 bif decide (c3239 < 0) then
 if n3240 = 0 then none
 else some (Out.ret (vi (Int.tmod (IntKind.wrap IntKind.i64 (Int.sub 0 (IntKind.wrap IntKind.i64 (Int.add c3239 1)))) n3240)), [])
 else if n3240 = 0 then none else some (Out.ret (vi (Int.tmod c3239 n3240)), []) := by
  intros
  exact (E_fast _ _ _ _).trans (by kernel_rfl)


theorem f30 : ∀ (c3241 c3242 c3243 c3244 c3245 c3246 c3247 c3248 c3249 c3250 slot3251 : Int),
 E cx (Key.fn 30) [AV.agg [vi c3241, vi c3242, vi c3243, vi c3244, vi c3245, vi c3246, vi c3247, vi c3248, vi c3249, vu c3250], vi slot3251] [] =
 Option.bind
 (E cx (Key.fn 20) [AV.agg [vi c3241, vi c3242, vi c3243, vi c3244, vi c3245, vi c3246, vi c3247, vi c3248, vi c3249, vu c3250], vi slot3251]
 [])
 fun r3252 ↦
 Option.bind (ret1 r3252) fun v3253 ↦
 Option.bind (AV.tup? v3253) fun vs3254 ↦
 Option.bind (uncons? vs3254) fun p3255 ↦
 Option.bind (AV.int? IntKind.i64 p3255.fst) fun n3256 ↦
 Option.bind (uncons? p3255.snd) fun p3257 ↦
 Option.bind (AV.int? IntKind.i64 p3257.fst) fun n3258 ↦
 Option.bind (nil? p3257.snd) fun _ ↦
 bif n3258 != 0 then some (Out.ret (AV.tuple [vi 0, vi n3258]), [])
 else
 some
 (Out.ret
 (AV.tuple
 [vi
 (if 0 > IntKind.wrap IntKind.i64 (Int.sub n3256 c3246) then 0
 else IntKind.wrap IntKind.i64 (Int.sub n3256 c3246)),
 vi 0]),
 []) := by
  intros
  exact (E_fast _ _ _ _).trans (by kernel_rfl)


theorem f31 : ∀ (c3260 c3261 c3262 c3263 c3264 c3265 c3266 c3267 c3268 c3269 slot3270 : Int),
 E cx (Key.fn 31) [AV.agg [vi c3260, vi c3261, vi c3262, vi c3263, vi c3264, vi c3265, vi c3266, vi c3267, vi c3268, vu c3269], vi slot3270] [] =
 Option.bind
 (E cx (Key.fn 21) [AV.agg [vi c3260, vi c3261, vi c3262, vi c3263, vi c3264, vi c3265, vi c3266, vi c3267, vi c3268, vu c3269], vi slot3270]
 [])
 fun r3271 ↦
 Option.bind (ret1 r3271) fun v3272 ↦
 Option.bind (AV.tup? v3272) fun vs3273 ↦
 Option.bind (uncons? vs3273) fun p3274 ↦
 Option.bind (AV.int? IntKind.i64 p3274.fst) fun n3275 ↦
 Option.bind (uncons? p3274.snd) fun p3276 ↦
 Option.bind (AV.int? IntKind.i64 p3276.fst) fun n3277 ↦
 Option.bind (nil? p3276.snd) fun _ ↦
 bif n3277 != 0 then some (Out.ret (AV.tuple [vi 0, vi n3277]), [])
 else
 some
 (Out.ret
 (AV.tuple
 [vi
 (if 0 > IntKind.wrap IntKind.i64 (Int.sub n3275 c3265) then 0
 else IntKind.wrap IntKind.i64 (Int.sub n3275 c3265)),
 vi 0]),
 []) := by
  intros
  exact (E_fast _ _ _ _).trans (by kernel_rfl)


theorem f32 : ∀ (c3279 c3280 c3281 c3282 c3283 c3284 c3285 c3286 c3287 c3288 slot3289 : Int),
 E cx (Key.fn 32) [AV.agg [vi c3279, vi c3280, vi c3281, vi c3282, vi c3283, vi c3284, vi c3285, vi c3286, vi c3287, vu c3288], vi slot3289] [] =
 Option.bind
 (E cx (Key.fn 20) [AV.agg [vi c3279, vi c3280, vi c3281, vi c3282, vi c3283, vi c3284, vi c3285, vi c3286, vi c3287, vu c3288], vi slot3289]
 [])
 fun r3290 ↦
 Option.bind (ret1 r3290) fun v3291 ↦
 Option.bind (AV.tup? v3291) fun vs3292 ↦
 Option.bind (uncons? vs3292) fun p3293 ↦
 Option.bind (AV.int? IntKind.i64 p3293.fst) fun n3294 ↦
 Option.bind (uncons? p3293.snd) fun p3295 ↦
 Option.bind (AV.int? IntKind.i64 p3295.fst) fun n3296 ↦
 Option.bind (nil? p3295.snd) fun _ ↦
 bif n3296 != 0 then some (Out.ret (AV.tuple [vi 0, vi n3296]), [])
 else
 some
 (Out.ret
 (AV.tuple
 [vi
 (if
 1099511627776 <
 IntKind.wrap IntKind.i64
 (Int.sub
 (IntKind.wrap IntKind.i64
 (Int.add
 (IntKind.wrap IntKind.i64
 (Int.add n3294
 (IntKind.wrap IntKind.i64 (Int.mul (IntKind.wrap IntKind.i64 (Int.add c3285 1)) c3283))))
 c3284))
 1) then
 1099511627776
 else
 IntKind.wrap IntKind.i64
 (Int.sub
 (IntKind.wrap IntKind.i64
 (Int.add
 (IntKind.wrap IntKind.i64
 (Int.add n3294
 (IntKind.wrap IntKind.i64 (Int.mul (IntKind.wrap IntKind.i64 (Int.add c3285 1)) c3283))))
 c3284))
 1)),
 vi 0]),
 []) := by
  intros
  exact (E_fast _ _ _ _).trans (by kernel_rfl)


theorem f33 : ∀ (c3298 c3299 c3300 c3301 c3302 c3303 c3304 c3305 c3306 c3307 slot3308 : Int),
 E cx (Key.fn 33) [AV.agg [vi c3298, vi c3299, vi c3300, vi c3301, vi c3302, vi c3303, vi c3304, vi c3305, vi c3306, vu c3307], vi slot3308] [] =
 Option.bind
 (E cx (Key.fn 21) [AV.agg [vi c3298, vi c3299, vi c3300, vi c3301, vi c3302, vi c3303, vi c3304, vi c3305, vi c3306, vu c3307], vi slot3308]
 [])
 fun r3309 ↦
 Option.bind (ret1 r3309) fun v3310 ↦
 Option.bind (AV.tup? v3310) fun vs3311 ↦
 Option.bind (uncons? vs3311) fun p3312 ↦
 Option.bind (AV.int? IntKind.i64 p3312.fst) fun n3313 ↦
 Option.bind (uncons? p3312.snd) fun p3314 ↦
 Option.bind (AV.int? IntKind.i64 p3314.fst) fun n3315 ↦
 Option.bind (nil? p3314.snd) fun _ ↦
 bif n3315 != 0 then some (Out.ret (AV.tuple [vi 0, vi n3315]), [])
 else
 some
 (Out.ret
 (AV.tuple
 [vi
 (if
 1099511627776 <
 IntKind.wrap IntKind.i64
 (Int.sub
 (IntKind.wrap IntKind.i64
 (Int.add
 (IntKind.wrap IntKind.i64
 (Int.add n3313
 (IntKind.wrap IntKind.i64 (Int.mul (IntKind.wrap IntKind.i64 (Int.add c3304 1)) c3302))))
 c3303))
 1) then
 1099511627776
 else
 IntKind.wrap IntKind.i64
 (Int.sub
 (IntKind.wrap IntKind.i64
 (Int.add
 (IntKind.wrap IntKind.i64
 (Int.add n3313
 (IntKind.wrap IntKind.i64 (Int.mul (IntKind.wrap IntKind.i64 (Int.add c3304 1)) c3302))))
 c3303))
 1)),
 vi 0]),
 []) := by
  intros
  exact (E_fast _ _ _ _).trans (by kernel_rfl)


theorem f34 : ∀ (c3317 c3318 c3319 c3320 c3321 c3322 c3323 c3324 c3325 c3326 now3327 slot3328 : Int),
 E cx (Key.fn 34)
 [AV.agg [vi c3317, vi c3318, vi c3319, vi c3320, vi c3321, vi c3322, vi c3323, vi c3324, vi c3325, vu c3326], vi now3327, vi slot3328] [] =
 Option.bind (E cx (Key.fn 15) [AV.agg [vi c3317, vi c3318, vi c3319, vi c3320, vi c3321, vi c3322, vi c3323, vi c3324, vi c3325, vu c3326]] [])
 fun r3329 ↦
 Option.bind (ret1 r3329) fun v3330 ↦
 Option.bind (AV.bool? v3330) fun b3331 ↦
 bif b3331 then
 Option.bind (E cx (Key.fn 40) [vi now3327] []) fun r3332 ↦
 Option.bind (ret1 r3332) fun v3333 ↦
 Option.bind (AV.bool? v3333) fun b3334 ↦
 bif b3334 then
 bif decide (slot3328 < 0) then some (Out.ret (AV.tuple [vi 0, vi 1]), [])
 else
 Option.bind
 (E cx (Key.fn 41)
 [AV.agg [vi c3317, vi c3318, vi c3319, vi c3320, vi c3321, vi c3322, vi c3323, vi c3324, vi c3325, vu c3326], vi now3327, vi slot3328]
 [])
 fun r3335 ↦
 Option.bind (ret1 r3335) fun v3336 ↦
 Option.bind (AV.int? IntKind.i64 v3336) fun n3337 ↦ some (Out.ret (AV.tuple [vi n3337, vi 0]), [])
 else some (Out.ret (AV.tuple [vi 0, vi 1]), [])
 else some (Out.ret (AV.tuple [vi 0, vi 1]), []) := by
  intros
  exact (E_fast _ _ _ _).trans (by kernel_rfl)


theorem f35 : ∀ (c3338 c3339 c3340 c3341 c3342 c3343 c3344 c3345 c3346 c3347 tick3348 slot3349 : Int),
 E cx (Key.fn 35)
 [AV.agg [vi c3338, vi c3339, vi c3340, vi c3341, vi c3342, vi c3343, vi c3344, vi c3345, vi c3346, vu c3347], vi tick3348, vi slot3349] [] =
 Option.bind (E cx (Key.fn 16) [AV.agg [vi c3338, vi c3339, vi c3340, vi c3341, vi c3342, vi c3343, vi c3344, vi c3345, vi c3346, vu c3347]] [])
 fun r3350 ↦
 Option.bind (ret1 r3350) fun v3351 ↦
 Option.bind (AV.bool? v3351) fun b3352 ↦
 bif b3352 then
 bif decide (tick3348 < 0) then some (Out.ret (AV.tuple [vi 0, vi 1]), [])
 else
 bif decide (tick3348 > 1099511627776) then some (Out.ret (AV.tuple [vi 0, vi 1]), [])
 else
 bif decide (slot3349 < 0) then some (Out.ret (AV.tuple [vi 0, vi 1]), [])
 else
 Option.bind
 (E cx (Key.fn 31)
 [AV.agg [vi c3338, vi c3339, vi c3340, vi c3341, vi c3342, vi c3343, vi c3344, vi c3345, vi c3346, vu c3347], vi slot3349] [])
 fun r3353 ↦
 Option.bind (ret1 r3353) fun v3354 ↦
 Option.bind (AV.tup? v3354) fun vs3355 ↦
 Option.bind (uncons? vs3355) fun p3356 ↦
 Option.bind (AV.int? IntKind.i64 p3356.fst) fun n3357 ↦
 Option.bind (uncons? p3356.snd) fun p3358 ↦
 Option.bind (AV.int? IntKind.i64 p3358.fst) fun n3359 ↦
 Option.bind (nil? p3358.snd) fun _ ↦
 bif n3359 != 0 then some (Out.ret (AV.tuple [vi 0, vi 0]), [])
 else
 bif decide (tick3348 < n3357) then some (Out.ret (AV.tuple [vi 0, vi 0]), [])
 else
 Option.bind
 (E cx (Key.fn 33)
 [AV.agg [vi c3338, vi c3339, vi c3340, vi c3341, vi c3342, vi c3343, vi c3344, vi c3345, vi c3346, vu c3347],
 vi slot3349]
 [])
 fun r3361 ↦
 Option.bind (ret1 r3361) fun v3362 ↦
 Option.bind (AV.tup? v3362) fun vs3363 ↦
 Option.bind (uncons? vs3363) fun p3364 ↦
 Option.bind (AV.int? IntKind.i64 p3364.fst) fun n3365 ↦
 Option.bind (uncons? p3364.snd) fun p3366 ↦
 Option.bind (AV.int? IntKind.i64 p3366.fst) fun _ ↦
 Option.bind (nil? p3366.snd) fun _ ↦
 bif decide (tick3348 > n3365) then some (Out.ret (AV.tuple [vi 2, vi 0]), [])
 else some (Out.ret (AV.tuple [vi 1, vi 0]), [])
 else some (Out.ret (AV.tuple [vi 0, vi 1]), []) := by
  intros
  exact (E_fast _ _ _ _).trans (by kernel_rfl)


theorem f36 : ∀ (c3369 c3370 c3371 c3372 c3373 c3374 c3375 c3376 c3377 c3378 now3379 : Int),
 E cx (Key.fn 36) [AV.agg [vi c3369, vi c3370, vi c3371, vi c3372, vi c3373, vi c3374, vi c3375, vi c3376, vi c3377, vu c3378], vi now3379] [] =
 Option.bind (E cx (Key.fn 15) [AV.agg [vi c3369, vi c3370, vi c3371, vi c3372, vi c3373, vi c3374, vi c3375, vi c3376, vi c3377, vu c3378]] [])
 fun r3380 ↦
 Option.bind (ret1 r3380) fun v3381 ↦
 Option.bind (AV.bool? v3381) fun b3382 ↦
 bif b3382 then
 Option.bind (E cx (Key.fn 40) [vi now3379] []) fun r3383 ↦
 Option.bind (ret1 r3383) fun v3384 ↦
 Option.bind (AV.bool? v3384) fun b3385 ↦
 bif b3385 then
 if c3373 = 0 then none
 else
 Option.bind
 (E cx (Key.fn 42)
 [vi
 (IntKind.wrap IntKind.i64
 (Int.sub (IntKind.wrap IntKind.i64 (Int.tdiv now3379 c3373))
 (if
 0 >
 IntKind.wrap IntKind.i64
 (Int.sub (IntKind.wrap IntKind.i64 (Int.sub (IntKind.wrap IntKind.i64 (Int.tdiv now3379 c3373)) c3375))
 2) then
 0
 else
 IntKind.wrap IntKind.i64
 (Int.sub (IntKind.wrap IntKind.i64 (Int.sub (IntKind.wrap IntKind.i64 (Int.tdiv now3379 c3373)) c3375)) 2)))),
 AV.func (Go.Fn.func 43) []
 [AV.rop [vi c3369, vi c3370, vi c3371, vi c3372, vi c3373, vi c3374, vi c3375, vi c3376, vi c3377, vu c3378], AV.rop [vi now3379],
 AV.rop
 [vi
 (if
 0 >
 IntKind.wrap IntKind.i64
 (Int.sub
 (IntKind.wrap IntKind.i64 (Int.sub (IntKind.wrap IntKind.i64 (Int.tdiv now3379 c3373)) c3375))
 2) then
 0
 else
 IntKind.wrap IntKind.i64
 (Int.sub (IntKind.wrap IntKind.i64 (Int.sub (IntKind.wrap IntKind.i64 (Int.tdiv now3379 c3373)) c3375))
 2))]]]
 [])
 fun r3386 ↦
 Option.bind (ret1 r3386) fun v3387 ↦
 Option.bind (AV.int? IntKind.i64 v3387) fun n3388 ↦
 Option.bind
 (E cx (Key.fn 41)
 [AV.agg [vi c3369, vi c3370, vi c3371, vi c3372, vi c3373, vi c3374, vi c3375, vi c3376, vi c3377, vu c3378], vi now3379,
 vi (IntKind.wrap IntKind.i64 (Int.add (IntKind.wrap IntKind.i64 (Int.tdiv now3379 c3373)) 1))]
 [])
 fun r3389 ↦
 Option.bind (ret1 r3389) fun v3390 ↦
 Option.bind (AV.int? IntKind.i64 v3390) fun n3391 ↦
 bif decide (n3391 = 1) then
 some
 (Out.ret
 (AV.tuple
 [vi
 (IntKind.wrap IntKind.i64
 (Int.add
 (if
 0 >
 IntKind.wrap IntKind.i64
 (Int.sub
 (IntKind.wrap IntKind.i64
 (Int.sub (IntKind.wrap IntKind.i64 (Int.tdiv now3379 c3373)) c3375))
 2) then
 0
 else
 IntKind.wrap IntKind.i64
 (Int.sub
 (IntKind.wrap IntKind.i64
 (Int.sub (IntKind.wrap IntKind.i64 (Int.tdiv now3379 c3373)) c3375))
 2))
 n3388)),
 vi (IntKind.wrap IntKind.i64 (Int.add (IntKind.wrap IntKind.i64 (Int.tdiv now3379 c3373)) 1)), vi 0]),
 [])
 else
 some
 (Out.ret
 (AV.tuple
 [vi
 (IntKind.wrap IntKind.i64
 (Int.add
 (if
 0 >
 IntKind.wrap IntKind.i64
 (Int.sub
 (IntKind.wrap IntKind.i64
 (Int.sub (IntKind.wrap IntKind.i64 (Int.tdiv now3379 c3373)) c3375))
 2) then
 0
 else
 IntKind.wrap IntKind.i64
 (Int.sub
 (IntKind.wrap IntKind.i64
 (Int.sub (IntKind.wrap IntKind.i64 (Int.tdiv now3379 c3373)) c3375))
 2))
 n3388)),
 vi (IntKind.wrap IntKind.i64 (Int.tdiv now3379 c3373)), vi 0]),
 [])
 else some (Out.ret (AV.tuple [vi 0, vi 0, vi 1]), [])
 else some (Out.ret (AV.tuple [vi 0, vi 0, vi 1]), []) := by
  intros
  exact (E_fast _ _ _ _).trans (by kernel_rfl)


theorem f37 : ∀ (c3392 c3393 c3394 c3395 c3396 c3397 c3398 c3399 c3400 c3401 tick3402 : Int),
 E cx (Key.fn 37) [AV.agg [vi c3392, vi c3393, vi c3394, vi c3395, vi c3396, vi c3397, vi c3398, vi c3399, vi c3400, vu c3401], vi tick3402] [] =
 Option.bind (E cx (Key.fn 16) [AV.agg [vi c3392, vi c3393, vi c3394, vi c3395, vi c3396, vi c3397, vi c3398, vi c3399, vi c3400, vu c3401]] [])
 fun r3403 ↦
 Option.bind (ret1 r3403) fun v3404 ↦
 Option.bind (AV.bool? v3404) fun b3405 ↦
 bif b3405 then
 bif decide (tick3402 < 0) then some (Out.ret (AV.tuple [vi 0, vi 0, vi 1]), [])
 else
 bif decide (tick3402 > 1099511627776) then some (Out.ret (AV.tuple [vi 0, vi 0, vi 1]), [])
 else
 if c3396 = 0 then none
 else
 Option.bind
 (E cx (Key.loop 37 [true, true, true, true, true, false, false])
 [vi (IntKind.wrap IntKind.i64 (Int.tdiv tick3402 c3396)), vi tick3402, AV.ptr 0 0 0 0, vi 0, vi 0, vi 0,
 vi (IntKind.wrap IntKind.i64 (Int.tdiv tick3402 c3396))]
 [Ob.mk OK.box 24 10 0 [[vi c3392, vi c3393, vi c3394, vi c3395, vi c3396, vi c3397, vi c3398, vi c3399, vi c3400, vu c3401]]])
 fun r3406 ↦
 Option.bind (asJump r3406) fun j3407 ↦
 bif JX.is j3407.fst (JX.exit 0) then
 Option.bind (uncons? j3407.snd.fst) fun p3408 ↦
 Option.bind (AV.int? IntKind.i64 p3408.fst) fun n3409 ↦
 Option.bind (nil? p3408.snd) fun _ ↦
 Option.bind (uncons? j3407.snd.snd) fun p3411 ↦
 Option.bind
 (obIs
 (Ob.mk OK.box 24 10 0
 [[vi c3392, vi c3393, vi c3394, vi c3395, vi c3396, vi c3397, vi c3398, vi c3399, vi c3400, vu c3401]])
 p3411.fst)
 fun _ ↦
 Option.bind (uncons? p3411.fst.es) fun p3413 ↦
 Option.bind (nil? p3413.snd) fun _ ↦
 Option.bind (uncons? p3413.fst) fun p3415 ↦
 Option.bind (AV.int? IntKind.i64 p3415.fst) fun n3416 ↦
 Option.bind (uncons? p3415.snd) fun p3417 ↦
 Option.bind (AV.int? IntKind.i64 p3417.fst) fun n3418 ↦
 Option.bind (uncons? p3417.snd) fun p3419 ↦
 Option.bind (AV.int? IntKind.i64 p3419.fst) fun n3420 ↦
 Option.bind (uncons? p3419.snd) fun p3421 ↦
 Option.bind (AV.int? IntKind.i64 p3421.fst) fun n3422 ↦
 Option.bind (uncons? p3421.snd) fun p3423 ↦
 Option.bind (AV.int? IntKind.i64 p3423.fst) fun n3424 ↦
 Option.bind (uncons? p3423.snd) fun p3425 ↦
 Option.bind (AV.int? IntKind.i64 p3425.fst) fun n3426 ↦
 Option.bind (uncons? p3425.snd) fun p3427 ↦
 Option.bind (AV.int? IntKind.i64 p3427.fst) fun n3428 ↦
 Option.bind (uncons? p3427.snd) fun p3429 ↦
 Option.bind (AV.int? IntKind.i64 p3429.fst) fun n3430 ↦
 Option.bind (uncons? p3429.snd) fun p3431 ↦
 Option.bind (AV.int? IntKind.i64 p3431.fst) fun n3432 ↦
 Option.bind (uncons? p3431.snd) fun p3433 ↦
 Option.bind (AV.int? IntKind.u64 p3433.fst) fun n3434 ↦
 Option.bind (nil? p3433.snd) fun _ ↦
 Option.bind (chk p3411.fst.ver 0) fun _ ↦
 Option.bind (nil? p3411.snd) fun _ ↦
 Option.bind
 (E cx
 (Key.loop 37 [true, true, true, true, true, true, false])
 [vi 0, vi 0, vi 0,
 vi (IntKind.wrap IntKind.i64 (Int.tdiv tick3402 c3396)),
 vi tick3402, AV.ptr 0 0 0 0, vi n3409]
 [Ob.mk OK.box 24 10 0
 [[vi n3416, vi n3418, vi n3420, vi n3422, vi n3424, vi n3426,
 vi n3428, vi n3430, vi n3432, vu n3434]]])
 fun r3438 ↦
 Option.bind (asJump r3438) fun j3439 ↦
 bif JX.is j3439.fst JX.ret then
 Option.bind (uncons? j3439.snd.fst) fun p3440 ↦
 Option.bind (AV.int? IntKind.i64 p3440.fst) fun n3441 ↦
 Option.bind (uncons? p3440.snd) fun p3442 ↦
 Option.bind (AV.int? IntKind.i64 p3442.fst) fun n3443 ↦
 Option.bind (uncons? p3442.snd) fun p3444 ↦
 Option.bind (AV.int? IntKind.i64 p3444.fst) fun n3445 ↦
 Option.bind (uncons? p3444.snd) fun p3446 ↦
 Option.bind (AV.int? IntKind.i64 p3446.fst)
 fun _ ↦
 Option.bind (nil? p3446.snd) fun _ ↦
 Option.bind (uncons? j3439.snd.snd) fun p3449 ↦
 Option.bind
 (obIs
 (Ob.mk OK.box 24 10 0
 [[vi n3416, vi n3418, vi n3420, vi n3422,
 vi n3424, vi n3426, vi n3428, vi n3430,
 vi n3432, vu n3434]])
 p3449.fst)
 fun _ ↦
 Option.bind (uncons? p3449.fst.es) fun p3451 ↦
 Option.bind (nil? p3451.snd) fun _ ↦
 Option.bind (uncons? p3451.fst) fun p3453 ↦
 Option.bind
 (AV.int? IntKind.i64 p3453.fst)
 fun _ ↦
 Option.bind (uncons? p3453.snd)
 fun p3455 ↦
 Option.bind
 (AV.int? IntKind.i64 p3455.fst)
 fun _ ↦
 Option.bind (uncons? p3455.snd)
 fun p3457 ↦
 Option.bind
 (AV.int? IntKind.i64
 p3457.fst)
 fun _ ↦
 Option.bind (uncons? p3457.snd)
 fun p3459 ↦
 Option.bind
 (AV.int? IntKind.i64
 p3459.fst)
 fun _ ↦
 Option.bind
 (uncons? p3459.snd)
 fun p3461 ↦
 Option.bind
 (AV.int? IntKind.i64
 p3461.fst)
 fun _ ↦
 Option.bind
 (uncons? p3461.snd)
 fun p3463 ↦
 Option.bind
 (AV.int?
 IntKind.i64
 p3463.fst)
 fun _ ↦
 Option.bind
 (uncons?
 p3463.snd)
 fun p3465 ↦
 Option.bind
 (AV.int?
 IntKind.i64
 p3465.fst)
 fun _ ↦
 Option.bind
 (uncons?
 p3465.snd)
 fun p3467 ↦
 Option.bind
 (AV.int?
 IntKind.i64
 p3467.fst)
 fun _ ↦
 Option.bind
 (uncons?
 p3467.snd)
 fun
 p3469 ↦
 Option.bind
 (AV.int?
 IntKind.i64
 p3469.fst)
 fun
 _ ↦
 Option.bind
 (uncons?
 p3469.snd)
 fun
 p3471 ↦
 Option.bind
 (AV.int?
 IntKind.u64
 p3471.fst)
 fun
 _ ↦
 Option.bind
 (nil?
 p3471.snd)
 fun
 _ ↦
 Option.bind
 (chk
 p3449.fst.ver
 0)
 fun
 _ ↦
 Option.bind
 (nil?
 p3449.snd)
 fun
 _ ↦
 some
 (Out.ret
 (AV.tuple
 [vi
 n3441,
 vi
 n3443,
 vi
 n3445]),
 [])
 else none
 else none
 else some (Out.ret (AV.tuple [vi 0, vi 0, vi 1]), []) := by
  intros
  exact (E_fast _ _ _ _).trans (by kernel_rfl)

theorem f37_l0 : ∀ (x3476 x3477 x3478 x3479 x3480 x3481 x3482 x3483 x3484 x3485 x3486 x3487 x3488 x3489 x3490 x3491 : Int),
 E cx (Key.loop 37 [true, true, true, true, true, false, false]) [vi x3476, vi x3477, AV.ptr 0 0 0 0, vi x3478, vi x3479, vi x3480, vi x3481]
 [Ob.mk OK.box 24 10 0 [[vi x3482, vi x3483, vi x3484, vi x3485, vi x3486, vi x3487, vi x3488, vi x3489, vi x3490, vu x3491]]] =
 bif decide (x3476 > 0) then
 Option.bind
 (E cx (Key.fn 35)
 [AV.agg [vi x3482, vi x3483, vi x3484, vi x3485, vi x3486, vi x3487, vi x3488, vi x3489, vi x3490, vu x3491], vi x3477,
 vi (IntKind.wrap IntKind.i64 (Int.sub x3476 1))]
 [])
 fun r3492 ↦
 Option.bind (ret1 r3492) fun v3493 ↦
 Option.bind (AV.tup? v3493) fun vs3494 ↦
 Option.bind (uncons? vs3494) fun p3495 ↦
 Option.bind (AV.int? IntKind.i64 p3495.fst) fun n3496 ↦
 Option.bind (uncons? p3495.snd) fun p3497 ↦
 Option.bind (AV.int? IntKind.i64 p3497.fst) fun _ ↦
 Option.bind (nil? p3497.snd) fun _ ↦
 bif n3496 != 1 then
 some
 (Out.jump (JX.exit 0) [vi x3476],
 [Ob.mk OK.box 24 10 0 [[vi x3482, vi x3483, vi x3484, vi x3485, vi x3486, vi x3487, vi x3488, vi x3489, vi x3490, vu x3491]]])
 else
 E cx (Key.loop 37 [true, true, true, true, true, false, false])
 [vi (IntKind.wrap IntKind.i64 (Int.sub x3476 1)), vi x3477, AV.ptr 0 0 0 0, vi x3478, vi x3479, vi x3480, vi x3481]
 [Ob.mk OK.box 24 10 0 [[vi x3482, vi x3483, vi x3484, vi x3485, vi x3486, vi x3487, vi x3488, vi x3489, vi x3490, vu x3491]]]
 else
 some
 (Out.jump (JX.exit 0) [vi x3476],
 [Ob.mk OK.box 24 10 0 [[vi x3482, vi x3483, vi x3484, vi x3485, vi x3486, vi x3487, vi x3488, vi x3489, vi x3490, vu x3491]]]) := by
  intros
  exact (E_fast _ _ _ _).trans (by kernel_rfl)

theorem f37_l1 : ∀ (x3500 x3501 x3502 x3503 x3504 x3505 x3506 x3507 x3508 x3509 x3510 x3511 x3512 x3513 x3514 x3515 : Int),
 E cx (Key.loop 37 [true, true, true, true, true, true, false]) [vi x3500, vi x3501, vi x3502, vi x3503, vi x3504, AV.ptr 0 0 0 0, vi x3505]
 [Ob.mk OK.box 24 10 0 [[vi x3506, vi x3507, vi x3508, vi x3509, vi x3510, vi x3511, vi x3512, vi x3513, vi x3514, vu x3515]]] =
 Option.bind
 (E cx (Key.fn 35)
 [AV.agg [vi x3506, vi x3507, vi x3508, vi x3509, vi x3510, vi x3511, vi x3512, vi x3513, vi x3514, vu x3515], vi x3504,
 vi (IntKind.wrap IntKind.i64 (Int.add x3503 1))]
 [])
 fun r3516 ↦
 Option.bind (ret1 r3516) fun v3517 ↦
 Option.bind (AV.tup? v3517) fun vs3518 ↦
 Option.bind (uncons? vs3518) fun p3519 ↦
 Option.bind (AV.int? IntKind.i64 p3519.fst) fun n3520 ↦
 Option.bind (uncons? p3519.snd) fun p3521 ↦
 Option.bind (AV.int? IntKind.i64 p3521.fst) fun _ ↦
 Option.bind (nil? p3521.snd) fun _ ↦
 bif n3520 != 1 then
 some
 (Out.jump JX.ret [vi x3505, vi x3503, vi 0, vi x3503],
 [Ob.mk OK.box 24 10 0 [[vi x3506, vi x3507, vi x3508, vi x3509, vi x3510, vi x3511, vi x3512, vi x3513, vi x3514, vu x3515]]])
 else
 E cx (Key.loop 37 [true, true, true, true, true, true, false])
 [vi x3500, vi x3501, vi x3502, vi (IntKind.wrap IntKind.i64 (Int.add x3503 1)), vi x3504, AV.ptr 0 0 0 0, vi x3505]
 [Ob.mk OK.box 24 10 0 [[vi x3506, vi x3507, vi x3508, vi x3509, vi x3510, vi x3511, vi x3512, vi x3513, vi x3514, vu x3515]]] := by
  intros
  exact (E_fast _ _ _ _).trans (by kernel_rfl)


theorem f38 : ∀ (n3524 from3525 to3526 : Int),
 E cx (Key.fn 38) [vi n3524, vi from3525, vi to3526] [] =
 bif decide (n3524 ≥ from3525) then bif decide (n3524 ≤ to3526) then some (Out.ret (vbool true), []) else some (Out.ret (vbool false), [])
 else some (Out.ret (vbool false), []) := by
  intros
  exact (E_fast _ _ _ _).trans (by kernel_rfl)


theorem f39 : ∀ (n3527 : Int),
 E cx (Key.fn 39) [vi n3527] [] =
 bif decide (n3527 ≥ 0) then bif decide (n3527 ≤ 1099511627776) then some (Out.ret (vbool true), []) else some (Out.ret (vbool false), [])
 else some (Out.ret (vbool false), []) := by
  intros
  exact (E_fast _ _ _ _).trans (by kernel_rfl)


theorem f40 : ∀ (n3528 : Int),
 E cx (Key.fn 40) [vi n3528] [] =
 bif decide (n3528 ≥ 0) then bif decide (n3528 ≤ 1099511627776) then some (Out.ret (vbool true), []) else some (Out.ret (vbool false), [])
 else some (Out.ret (vbool false), []) := by
  intros
  exact (E_fast _ _ _ _).trans (by kernel_rfl)


theorem f41 : ∀ (c3529 c3530 c3531 c3532 c3533 c3534 c3535 c3536 c3537 c3538 tick3539 slot3540 : Int),
 E cx (Key.fn 41)
 [AV.agg [vi c3529, vi c3530, vi c3531, vi c3532, vi c3533, vi c3534, vi c3535, vi c3536, vi c3537, vu c3538], vi tick3539, vi slot3540] [] =
 Option.bind
 (E cx (Key.fn 30) [AV.agg [vi c3529, vi c3530, vi c3531, vi c3532, vi c3533, vi c3534, vi c3535, vi c3536, vi c3537, vu c3538], vi slot3540]
 [])
 fun r3541 ↦
 Option.bind (ret1 r3541) fun v3542 ↦
 Option.bind (AV.tup? v3542) fun vs3543 ↦
 Option.bind (uncons? vs3543) fun p3544 ↦
 Option.bind (AV.int? IntKind.i64 p3544.fst) fun n3545 ↦
 Option.bind (uncons? p3544.snd) fun p3546 ↦
 Option.bind (AV.int? IntKind.i64 p3546.fst) fun n3547 ↦
 Option.bind (nil? p3546.snd) fun _ ↦
 bif n3547 != 0 then some (Out.ret (vi 0), [])
 else
 bif decide (tick3539 < n3545) then some (Out.ret (vi 0), [])
 else
 Option.bind
 (E cx (Key.fn 32)
 [AV.agg [vi c3529, vi c3530, vi c3531, vi c3532, vi c3533, vi c3534, vi c3535, vi c3536, vi c3537, vu c3538], vi slot3540] [])
 fun r3549 ↦
 Option.bind (ret1 r3549) fun v3550 ↦
 Option.bind (AV.tup? v3550) fun vs3551 ↦
 Option.bind (uncons? vs3551) fun p3552 ↦
 Option.bind (AV.int? IntKind.i64 p3552.fst) fun n3553 ↦
 Option.bind (uncons? p3552.snd) fun p3554 ↦
 Option.bind (AV.int? IntKind.i64 p3554.fst) fun _ ↦
 Option.bind (nil? p3554.snd) fun _ ↦
 bif decide (tick3539 > n3553) then some (Out.ret (vi 2), []) else some (Out.ret (vi 1), []) := by
  intros
  exact (E_fast _ _ _ _).trans (by kernel_rfl)


theorem f42 : ∀ (n3557 : Int) (f3558 : AV),
 E cx (Key.fn 42) [vi n3557, f3558] [] =
 Option.bind (E cx (Key.loop 42 [true, true, false, false]) [vi 0, vi n3557, AV.wk f3558] []) fun r3559 ↦
 Option.bind (asJump r3559) fun j3560 ↦
 bif JX.is j3560.fst (JX.exit 0) then
 Option.bind (uncons? j3560.snd.fst) fun p3561 ↦
 Option.bind (AV.int? IntKind.i64 p3561.fst) fun n3562 ↦
 Option.bind (uncons? p3561.snd) fun p3563 ↦
 Option.bind (AV.int? IntKind.i64 p3563.fst) fun _ ↦
 Option.bind (nil? p3563.snd) fun _ ↦ Option.bind (nil? j3560.snd.snd) fun _ ↦ some (Out.ret (vi n3562), [])
 else none := by
  intros
  exact (E_unfold _ _ _ _).trans (by kernel_rfl)

theorem f42_l0 : ∀ (x3567 x3568 : Int) (a3569 : AV),
 E cx (Key.loop 42 [true, true, false, false]) [vi x3567, vi x3568, a3569] [] =
 bif decide (x3567 < x3568) then
 Option.bind (viewArg [] a3569) fun g3570 ↦
 Option.bind
 (AV.call?
 [vi
 (IntKind.wrap IntKind.i64
 (ishr IntKind.u64 (IntKind.wrap IntKind.u64 (IntKind.wrap IntKind.i64 (Int.add x3567 x3568))) 1))]
 g3570)
 fun p3571 ↦
 Option.bind (E cx (Key.fn p3571.fst) p3571.snd []) fun r3572 ↦
 Option.bind (ret1 r3572) fun v3573 ↦
 Option.bind (AV.bool? v3573) fun b3574 ↦
 bif b3574 then
 Option.bind
 (gc []
 [vi x3567,
 vi
 (IntKind.wrap IntKind.i64
 (ishr IntKind.u64 (IntKind.wrap IntKind.u64 (IntKind.wrap IntKind.i64 (Int.add x3567 x3568))) 1))]
 [a3569] [])
 fun g3575 ↦
 E cx (Key.loop 42 [true, true, false, false]) (List.map AV.wk g3575.fst ++ List.map AV.wk g3575.snd.fst)
 (List.map Ob.wk g3575.snd.snd)
 else
 Option.bind
 (gc []
 [vi
 (IntKind.wrap IntKind.i64
 (Int.add
 (IntKind.wrap IntKind.i64
 (ishr IntKind.u64 (IntKind.wrap IntKind.u64 (IntKind.wrap IntKind.i64 (Int.add x3567 x3568))) 1))
 1)),
 vi x3568]
 [a3569] [])
 fun g3576 ↦
 E cx (Key.loop 42 [true, true, false, false]) (List.map AV.wk g3576.fst ++ List.map AV.wk g3576.snd.fst)
 (List.map Ob.wk g3576.snd.snd)
 else Option.bind (gc [] [vi x3567, vi x3568] [a3569] []) fun g3577 ↦ some (Out.jump (JX.exit 0) (List.map AV.wk g3577.fst), List.map Ob.wk g3577.snd.snd) := by
  intros
  exact (E_unfold _ _ _ _).trans (by kernel_rfl)


theorem f43 : ∀ (i3578 x3579 x3580 x3581 x3582 x3583 x3584 x3585 x3586 x3587 x3588 x3589 x3590 : Int),
 E cx (Key.fn 43)
 [vi i3578, AV.rop [vi x3579, vi x3580, vi x3581, vi x3582, vi x3583, vi x3584, vi x3585, vi x3586, vi x3587, vu x3588], AV.rop [vi x3589],
 AV.rop [vi x3590]]
 [] =
 Option.bind
 (E cx (Key.fn 41)
 [AV.agg [vi x3579, vi x3580, vi x3581, vi x3582, vi x3583, vi x3584, vi x3585, vi x3586, vi x3587, vu x3588], vi x3589,
 vi (IntKind.wrap IntKind.i64 (Int.add x3590 i3578))]
 [])
 fun r3591 ↦
 Option.bind (ret1 r3591) fun v3592 ↦
 Option.bind (AV.int? IntKind.i64 v3592) fun n3593 ↦ bif decide (n3593 = 1) then some (Out.ret (vbool true), []) else some (Out.ret (vbool false), []) := by
  intros
  exact (E_fast _ _ _ _).trans (by kernel_rfl)

end Go.Proofs.Av
