/-
  What the rows of the types and functions of this seat say, reckoned by the kernel.
  No condition.
-/
import Derived.Test.YtiefmfimbmkdjaaSxBld
import Derived.Test.YtiefmfimbmkdjaaSxEq
import Derived.Test.YtiefmfimbmkdjaaProg
import Derived.KernelRfl
namespace Go.Proofs.Ytiefmfimbmkdjaa
set_option linter.unusedSimpArgs false
set_option linter.unusedVariables false
set_option linter.unusedSectionVars false
theorem sz1 : szOf Try.prog 1 = some 1 := by kernel_rfl
theorem by1 : byOf Try.prog 1 = some 8 := by kernel_rfl
theorem zc1 : zc Try.prog 1 = some [.nilFunc] := by kernel_rfl
theorem sc1 : scal Try.prog 1 = true := by kernel_rfl
theorem zv1 : zvOf Try.prog 1 = some (.nilFunc) := by kernel_rfl
theorem sz2 : szOf Try.prog 2 = some 1 := by kernel_rfl
theorem by2 : byOf Try.prog 2 = some 8 := by kernel_rfl
theorem zc2 : zc Try.prog 2 = some [.int .i64 0] := by kernel_rfl
theorem sc2 : scal Try.prog 2 = true := by kernel_rfl
theorem zv2 : zvOf Try.prog 2 = some (.int .i64 0) := by kernel_rfl
theorem in2 : intT Try.prog 2 = some .i64 := by kernel_rfl
theorem sz3 : szOf Try.prog 3 = some 1 := by kernel_rfl
theorem by3 : byOf Try.prog 3 = some 8 := by kernel_rfl
theorem zc3 : zc Try.prog 3 = some [.int .i64 0] := by kernel_rfl
theorem sc3 : scal Try.prog 3 = true := by kernel_rfl
theorem zv3 : zvOf Try.prog 3 = some (.int .i64 0) := by kernel_rfl
theorem in3 : intT Try.prog 3 = some .i64 := by kernel_rfl
theorem sz4 : szOf Try.prog 4 = some 1 := by kernel_rfl
theorem by4 : byOf Try.prog 4 = some 1 := by kernel_rfl
theorem zc4 : zc Try.prog 4 = some [.bool false] := by kernel_rfl
theorem sc4 : scal Try.prog 4 = true := by kernel_rfl
theorem zv4 : zvOf Try.prog 4 = some (.bool false) := by kernel_rfl
theorem bo4 : isBool Try.prog 4 = true := by kernel_rfl
theorem sz5 : szOf Try.prog 5 = some 1 := by kernel_rfl
theorem by5 : byOf Try.prog 5 = some 1 := by kernel_rfl
theorem zc5 : zc Try.prog 5 = some [.int .u8 0] := by kernel_rfl
theorem sc5 : scal Try.prog 5 = true := by kernel_rfl
theorem zv5 : zvOf Try.prog 5 = some (.int .u8 0) := by kernel_rfl
theorem in5 : intT Try.prog 5 = some .u8 := by kernel_rfl
theorem sz6 : szOf Try.prog 6 = some 1 := by kernel_rfl
theorem by6 : byOf Try.prog 6 = some 1 := by kernel_rfl
theorem zc6 : zc Try.prog 6 = some [.int .u8 0] := by kernel_rfl
theorem sc6 : scal Try.prog 6 = true := by kernel_rfl
theorem zv6 : zvOf Try.prog 6 = some (.int .u8 0) := by kernel_rfl
theorem in6 : intT Try.prog 6 = some .u8 := by kernel_rfl
theorem sz7 : szOf Try.prog 7 = some 4 := by kernel_rfl
theorem by7 : byOf Try.prog 7 = some 24 := by kernel_rfl
theorem zc7 : zc Try.prog 7 = some [.int .i64 0, .int .i64 0, .bool false, .int .u8 0] := by kernel_rfl
theorem ag7 : aggr Try.prog 7 = true := by kernel_rfl
theorem pl7 : plOf Try.prog 7 = some [(0, 1), (1, 1), (2, 1), (3, 1)] := by kernel_rfl
theorem fl7_0 : fld Try.prog 7 0 = some 0 := by kernel_rfl
theorem fl7_1 : fld Try.prog 7 1 = some 1 := by kernel_rfl
theorem fl7_2 : fld Try.prog 7 2 = some 2 := by kernel_rfl
theorem fl7_3 : fld Try.prog 7 3 = some 3 := by kernel_rfl
theorem sz8 : szOf Try.prog 8 = some 4 := by kernel_rfl
theorem by8 : byOf Try.prog 8 = some 24 := by kernel_rfl
theorem zc8 : zc Try.prog 8 = some [.int .i64 0, .int .i64 0, .bool false, .int .u8 0] := by kernel_rfl
theorem ag8 : aggr Try.prog 8 = true := by kernel_rfl
theorem pl8 : plOf Try.prog 8 = some [(0, 1), (1, 1), (2, 1), (3, 1)] := by kernel_rfl
theorem fl8_0 : fld Try.prog 8 0 = some 0 := by kernel_rfl
theorem fl8_1 : fld Try.prog 8 1 = some 1 := by kernel_rfl
theorem fl8_2 : fld Try.prog 8 2 = some 2 := by kernel_rfl
theorem fl8_3 : fld Try.prog 8 3 = some 3 := by kernel_rfl
theorem sz9 : szOf Try.prog 9 = some 1 := by kernel_rfl
theorem by9 : byOf Try.prog 9 = some 16 := by kernel_rfl
theorem zc9 : zc Try.prog 9 = some [.string ⟨#[]⟩] := by kernel_rfl
theorem sc9 : scal Try.prog 9 = true := by kernel_rfl
theorem zv9 : zvOf Try.prog 9 = some (.string ⟨#[]⟩) := by kernel_rfl
theorem st9 : isStr Try.prog 9 = true := by kernel_rfl
theorem sz10 : szOf Try.prog 10 = some 1 := by kernel_rfl
theorem by10 : byOf Try.prog 10 = some 16 := by kernel_rfl
theorem zc10 : zc Try.prog 10 = some [.string ⟨#[]⟩] := by kernel_rfl
theorem sc10 : scal Try.prog 10 = true := by kernel_rfl
theorem zv10 : zvOf Try.prog 10 = some (.string ⟨#[]⟩) := by kernel_rfl
theorem st10 : isStr Try.prog 10 = true := by kernel_rfl
theorem sz11 : szOf Try.prog 11 = some 1 := by kernel_rfl
theorem by11 : byOf Try.prog 11 = some 16 := by kernel_rfl
theorem zc11 : zc Try.prog 11 = some [.string ⟨#[]⟩] := by kernel_rfl
theorem sc11 : scal Try.prog 11 = true := by kernel_rfl
theorem zv11 : zvOf Try.prog 11 = some (.string ⟨#[]⟩) := by kernel_rfl
theorem st11 : isStr Try.prog 11 = true := by kernel_rfl
theorem sz12 : szOf Try.prog 12 = some 1 := by kernel_rfl
theorem by12 : byOf Try.prog 12 = some 8 := by kernel_rfl
theorem zc12 : zc Try.prog 12 = some [.int .u64 0] := by kernel_rfl
theorem sc12 : scal Try.prog 12 = true := by kernel_rfl
theorem zv12 : zvOf Try.prog 12 = some (.int .u64 0) := by kernel_rfl
theorem in12 : intT Try.prog 12 = some .u64 := by kernel_rfl
theorem sz13 : szOf Try.prog 13 = some 2 := by kernel_rfl
theorem by13 : byOf Try.prog 13 = some 24 := by kernel_rfl
theorem zc13 : zc Try.prog 13 = some [.string ⟨#[]⟩, .int .u64 0] := by kernel_rfl
theorem ag13 : aggr Try.prog 13 = true := by kernel_rfl
theorem pl13 : plOf Try.prog 13 = some [(0, 1), (1, 1)] := by kernel_rfl
theorem fl13_0 : fld Try.prog 13 0 = some 0 := by kernel_rfl
theorem fl13_1 : fld Try.prog 13 1 = some 1 := by kernel_rfl
theorem sz14 : szOf Try.prog 14 = some 2 := by kernel_rfl
theorem by14 : byOf Try.prog 14 = some 24 := by kernel_rfl
theorem zc14 : zc Try.prog 14 = some [.string ⟨#[]⟩, .int .u64 0] := by kernel_rfl
theorem ag14 : aggr Try.prog 14 = true := by kernel_rfl
theorem pl14 : plOf Try.prog 14 = some [(0, 1), (1, 1)] := by kernel_rfl
theorem fl14_0 : fld Try.prog 14 0 = some 0 := by kernel_rfl
theorem fl14_1 : fld Try.prog 14 1 = some 1 := by kernel_rfl
theorem sz15 : szOf Try.prog 15 = some 1 := by kernel_rfl
theorem by15 : byOf Try.prog 15 = some 8 := by kernel_rfl
theorem zc15 : zc Try.prog 15 = some [.pointer none] := by kernel_rfl
theorem sc15 : scal Try.prog 15 = true := by kernel_rfl
theorem zv15 : zvOf Try.prog 15 = some (.pointer none) := by kernel_rfl
theorem pp15 : isPtr Try.prog 15 = true := by kernel_rfl
theorem sz16 : szOf Try.prog 16 = some 1 := by kernel_rfl
theorem by16 : byOf Try.prog 16 = some 8 := by kernel_rfl
theorem zc16 : zc Try.prog 16 = some [.pointer none] := by kernel_rfl
theorem sc16 : scal Try.prog 16 = true := by kernel_rfl
theorem zv16 : zvOf Try.prog 16 = some (.pointer none) := by kernel_rfl
theorem pp16 : isPtr Try.prog 16 = true := by kernel_rfl
theorem sz17 : szOf Try.prog 17 = some 1 := by kernel_rfl
theorem by17 : byOf Try.prog 17 = some 8 := by kernel_rfl
theorem zc17 : zc Try.prog 17 = some [.pointer none] := by kernel_rfl
theorem sc17 : scal Try.prog 17 = true := by kernel_rfl
theorem zv17 : zvOf Try.prog 17 = some (.pointer none) := by kernel_rfl
theorem pp17 : isPtr Try.prog 17 = true := by kernel_rfl
theorem sz18 : szOf Try.prog 18 = some 1 := by kernel_rfl
theorem by18 : byOf Try.prog 18 = some 8 := by kernel_rfl
theorem zc18 : zc Try.prog 18 = some [.pointer none] := by kernel_rfl
theorem ag18 : aggr Try.prog 18 = true := by kernel_rfl
theorem pl18 : plOf Try.prog 18 = some [(0, 1)] := by kernel_rfl
theorem fl18_0 : fld Try.prog 18 0 = some 0 := by kernel_rfl
theorem sz19 : szOf Try.prog 19 = some 1 := by kernel_rfl
theorem by19 : byOf Try.prog 19 = some 8 := by kernel_rfl
theorem zc19 : zc Try.prog 19 = some [.pointer none] := by kernel_rfl
theorem ag19 : aggr Try.prog 19 = true := by kernel_rfl
theorem pl19 : plOf Try.prog 19 = some [(0, 1)] := by kernel_rfl
theorem fl19_0 : fld Try.prog 19 0 = some 0 := by kernel_rfl
theorem sz20 : szOf Try.prog 20 = some 1 := by kernel_rfl
theorem by20 : byOf Try.prog 20 = some 16 := by kernel_rfl
theorem zc20 : zc Try.prog 20 = some [.nilIface] := by kernel_rfl
theorem sc20 : scal Try.prog 20 = true := by kernel_rfl
theorem zv20 : zvOf Try.prog 20 = some (.nilIface) := by kernel_rfl
theorem sz21 : szOf Try.prog 21 = some 1 := by kernel_rfl
theorem by21 : byOf Try.prog 21 = some 4 := by kernel_rfl
theorem zc21 : zc Try.prog 21 = some [.int .i32 0] := by kernel_rfl
theorem sc21 : scal Try.prog 21 = true := by kernel_rfl
theorem zv21 : zvOf Try.prog 21 = some (.int .i32 0) := by kernel_rfl
theorem in21 : intT Try.prog 21 = some .i32 := by kernel_rfl
theorem sz22 : szOf Try.prog 22 = some 1 := by kernel_rfl
theorem by22 : byOf Try.prog 22 = some 24 := by kernel_rfl
theorem zc22 : zc Try.prog 22 = some [.slice none 0 0] := by kernel_rfl
theorem sc22 : scal Try.prog 22 = true := by kernel_rfl
theorem zv22 : zvOf Try.prog 22 = some (.slice none 0 0) := by kernel_rfl
theorem se22 : slEl Try.prog 22 = some 46 := by kernel_rfl
theorem sz23 : szOf Try.prog 23 = some 1 := by kernel_rfl
theorem by23 : byOf Try.prog 23 = some 24 := by kernel_rfl
theorem zc23 : zc Try.prog 23 = some [.slice none 0 0] := by kernel_rfl
theorem sc23 : scal Try.prog 23 = true := by kernel_rfl
theorem zv23 : zvOf Try.prog 23 = some (.slice none 0 0) := by kernel_rfl
theorem se23 : slEl Try.prog 23 = some 3 := by kernel_rfl
theorem sz24 : szOf Try.prog 24 = some 4 := by kernel_rfl
theorem by24 : byOf Try.prog 24 = some 64 := by kernel_rfl
theorem zc24 : zc Try.prog 24 = some [.slice none 0 0, .slice none 0 0, .int .i64 0, .int .i64 0] := by kernel_rfl
theorem ag24 : aggr Try.prog 24 = true := by kernel_rfl
theorem pl24 : plOf Try.prog 24 = some [(0, 1), (1, 1), (2, 1), (3, 1)] := by kernel_rfl
theorem fl24_0 : fld Try.prog 24 0 = some 0 := by kernel_rfl
theorem fl24_1 : fld Try.prog 24 1 = some 1 := by kernel_rfl
theorem fl24_2 : fld Try.prog 24 2 = some 2 := by kernel_rfl
theorem fl24_3 : fld Try.prog 24 3 = some 3 := by kernel_rfl
theorem sz25 : szOf Try.prog 25 = some 4 := by kernel_rfl
theorem by25 : byOf Try.prog 25 = some 64 := by kernel_rfl
theorem zc25 : zc Try.prog 25 = some [.slice none 0 0, .slice none 0 0, .int .i64 0, .int .i64 0] := by kernel_rfl
theorem ag25 : aggr Try.prog 25 = true := by kernel_rfl
theorem pl25 : plOf Try.prog 25 = some [(0, 1), (1, 1), (2, 1), (3, 1)] := by kernel_rfl
theorem fl25_0 : fld Try.prog 25 0 = some 0 := by kernel_rfl
theorem fl25_1 : fld Try.prog 25 1 = some 1 := by kernel_rfl
theorem fl25_2 : fld Try.prog 25 2 = some 2 := by kernel_rfl
theorem fl25_3 : fld Try.prog 25 3 = some 3 := by kernel_rfl
theorem sz26 : szOf Try.prog 26 = some 1 := by kernel_rfl
theorem by26 : byOf Try.prog 26 = some 8 := by kernel_rfl
theorem zc26 : zc Try.prog 26 = some [.nilFunc] := by kernel_rfl
theorem sc26 : scal Try.prog 26 = true := by kernel_rfl
theorem zv26 : zvOf Try.prog 26 = some (.nilFunc) := by kernel_rfl
theorem sz27 : szOf Try.prog 27 = some 1 := by kernel_rfl
theorem by27 : byOf Try.prog 27 = some 8 := by kernel_rfl
theorem zc27 : zc Try.prog 27 = some [.nilFunc] := by kernel_rfl
theorem sc27 : scal Try.prog 27 = true := by kernel_rfl
theorem zv27 : zvOf Try.prog 27 = some (.nilFunc) := by kernel_rfl
theorem sz28 : szOf Try.prog 28 = some 1 := by kernel_rfl
theorem by28 : byOf Try.prog 28 = some 8 := by kernel_rfl
theorem zc28 : zc Try.prog 28 = some [.int .i64 0] := by kernel_rfl
theorem sc28 : scal Try.prog 28 = true := by kernel_rfl
theorem zv28 : zvOf Try.prog 28 = some (.int .i64 0) := by kernel_rfl
theorem in28 : intT Try.prog 28 = some .i64 := by kernel_rfl
theorem sz30 : szOf Try.prog 30 = some 1 := by kernel_rfl
theorem by30 : byOf Try.prog 30 = some 8 := by kernel_rfl
theorem zc30 : zc Try.prog 30 = some [.nilFunc] := by kernel_rfl
theorem sc30 : scal Try.prog 30 = true := by kernel_rfl
theorem zv30 : zvOf Try.prog 30 = some (.nilFunc) := by kernel_rfl
theorem sz32 : szOf Try.prog 32 = some 1 := by kernel_rfl
theorem by32 : byOf Try.prog 32 = some 8 := by kernel_rfl
theorem zc32 : zc Try.prog 32 = some [.nilFunc] := by kernel_rfl
theorem sc32 : scal Try.prog 32 = true := by kernel_rfl
theorem zv32 : zvOf Try.prog 32 = some (.nilFunc) := by kernel_rfl
theorem sz33 : szOf Try.prog 33 = some 1 := by kernel_rfl
theorem by33 : byOf Try.prog 33 = some 8 := by kernel_rfl
theorem zc33 : zc Try.prog 33 = some [.nilFunc] := by kernel_rfl
theorem sc33 : scal Try.prog 33 = true := by kernel_rfl
theorem zv33 : zvOf Try.prog 33 = some (.nilFunc) := by kernel_rfl
theorem sz34 : szOf Try.prog 34 = some 1 := by kernel_rfl
theorem by34 : byOf Try.prog 34 = some 8 := by kernel_rfl
theorem zc34 : zc Try.prog 34 = some [.nilFunc] := by kernel_rfl
theorem sc34 : scal Try.prog 34 = true := by kernel_rfl
theorem zv34 : zvOf Try.prog 34 = some (.nilFunc) := by kernel_rfl
theorem sz35 : szOf Try.prog 35 = some 1 := by kernel_rfl
theorem by35 : byOf Try.prog 35 = some 8 := by kernel_rfl
theorem zc35 : zc Try.prog 35 = some [.nilFunc] := by kernel_rfl
theorem sc35 : scal Try.prog 35 = true := by kernel_rfl
theorem zv35 : zvOf Try.prog 35 = some (.nilFunc) := by kernel_rfl
theorem sz36 : szOf Try.prog 36 = some 1 := by kernel_rfl
theorem by36 : byOf Try.prog 36 = some 24 := by kernel_rfl
theorem zc36 : zc Try.prog 36 = some [.slice none 0 0] := by kernel_rfl
theorem sc36 : scal Try.prog 36 = true := by kernel_rfl
theorem zv36 : zvOf Try.prog 36 = some (.slice none 0 0) := by kernel_rfl
theorem se36 : slEl Try.prog 36 = some 25 := by kernel_rfl
theorem sz37 : szOf Try.prog 37 = some 3 := by kernel_rfl
theorem by37 : byOf Try.prog 37 = some 40 := by kernel_rfl
theorem zc37 : zc Try.prog 37 = some [.slice none 0 0, .int .i64 0, .int .i64 0] := by kernel_rfl
theorem ag37 : aggr Try.prog 37 = true := by kernel_rfl
theorem pl37 : plOf Try.prog 37 = some [(0, 1), (1, 1), (2, 1)] := by kernel_rfl
theorem fl37_0 : fld Try.prog 37 0 = some 0 := by kernel_rfl
theorem fl37_1 : fld Try.prog 37 1 = some 1 := by kernel_rfl
theorem fl37_2 : fld Try.prog 37 2 = some 2 := by kernel_rfl
theorem sz38 : szOf Try.prog 38 = some 3 := by kernel_rfl
theorem by38 : byOf Try.prog 38 = some 40 := by kernel_rfl
theorem zc38 : zc Try.prog 38 = some [.slice none 0 0, .int .i64 0, .int .i64 0] := by kernel_rfl
theorem ag38 : aggr Try.prog 38 = true := by kernel_rfl
theorem pl38 : plOf Try.prog 38 = some [(0, 1), (1, 1), (2, 1)] := by kernel_rfl
theorem fl38_0 : fld Try.prog 38 0 = some 0 := by kernel_rfl
theorem fl38_1 : fld Try.prog 38 1 = some 1 := by kernel_rfl
theorem fl38_2 : fld Try.prog 38 2 = some 2 := by kernel_rfl
theorem sz40 : szOf Try.prog 40 = some 1 := by kernel_rfl
theorem by40 : byOf Try.prog 40 = some 8 := by kernel_rfl
theorem zc40 : zc Try.prog 40 = some [.nilFunc] := by kernel_rfl
theorem sc40 : scal Try.prog 40 = true := by kernel_rfl
theorem zv40 : zvOf Try.prog 40 = some (.nilFunc) := by kernel_rfl
theorem sz41 : szOf Try.prog 41 = some 1 := by kernel_rfl
theorem by41 : byOf Try.prog 41 = some 8 := by kernel_rfl
theorem zc41 : zc Try.prog 41 = some [.nilFunc] := by kernel_rfl
theorem sc41 : scal Try.prog 41 = true := by kernel_rfl
theorem zv41 : zvOf Try.prog 41 = some (.nilFunc) := by kernel_rfl
theorem sz42 : szOf Try.prog 42 = some 1 := by kernel_rfl
theorem by42 : byOf Try.prog 42 = some 8 := by kernel_rfl
theorem zc42 : zc Try.prog 42 = some [.nilFunc] := by kernel_rfl
theorem sc42 : scal Try.prog 42 = true := by kernel_rfl
theorem zv42 : zvOf Try.prog 42 = some (.nilFunc) := by kernel_rfl
theorem sz43 : szOf Try.prog 43 = some 1 := by kernel_rfl
theorem by43 : byOf Try.prog 43 = some 8 := by kernel_rfl
theorem zc43 : zc Try.prog 43 = some [.nilFunc] := by kernel_rfl
theorem sc43 : scal Try.prog 43 = true := by kernel_rfl
theorem zv43 : zvOf Try.prog 43 = some (.nilFunc) := by kernel_rfl
theorem sz44 : szOf Try.prog 44 = some 1 := by kernel_rfl
theorem by44 : byOf Try.prog 44 = some 8 := by kernel_rfl
theorem zc44 : zc Try.prog 44 = some [.nilFunc] := by kernel_rfl
theorem sc44 : scal Try.prog 44 = true := by kernel_rfl
theorem zv44 : zvOf Try.prog 44 = some (.nilFunc) := by kernel_rfl
theorem sz45 : szOf Try.prog 45 = some 4 := by kernel_rfl
theorem by45 : byOf Try.prog 45 = some 48 := by kernel_rfl
theorem zc45 : zc Try.prog 45 = some [.int .i64 0, .int .i64 0, .string ⟨#[]⟩, .string ⟨#[]⟩] := by kernel_rfl
theorem ag45 : aggr Try.prog 45 = true := by kernel_rfl
theorem pl45 : plOf Try.prog 45 = some [(0, 1), (1, 1), (2, 1), (3, 1)] := by kernel_rfl
theorem fl45_0 : fld Try.prog 45 0 = some 0 := by kernel_rfl
theorem fl45_1 : fld Try.prog 45 1 = some 1 := by kernel_rfl
theorem fl45_2 : fld Try.prog 45 2 = some 2 := by kernel_rfl
theorem fl45_3 : fld Try.prog 45 3 = some 3 := by kernel_rfl
theorem sz46 : szOf Try.prog 46 = some 4 := by kernel_rfl
theorem by46 : byOf Try.prog 46 = some 48 := by kernel_rfl
theorem zc46 : zc Try.prog 46 = some [.int .i64 0, .int .i64 0, .string ⟨#[]⟩, .string ⟨#[]⟩] := by kernel_rfl
theorem ag46 : aggr Try.prog 46 = true := by kernel_rfl
theorem pl46 : plOf Try.prog 46 = some [(0, 1), (1, 1), (2, 1), (3, 1)] := by kernel_rfl
theorem fk46 : fkinds Try.prog 46 = some [(0, 0), (0, 1), (1, 2), (1, 3)] := by kernel_rfl
theorem si46 : Try.prog.stoodInHeld 46 = false := by kernel_rfl
theorem eg46 : Try.prog.eqGuardType Try.prog.depth 46 = false := by kernel_rfl
theorem fl46_0 : fld Try.prog 46 0 = some 0 := by kernel_rfl
theorem fl46_1 : fld Try.prog 46 1 = some 1 := by kernel_rfl
theorem fl46_2 : fld Try.prog 46 2 = some 2 := by kernel_rfl
theorem fl46_3 : fld Try.prog 46 3 = some 3 := by kernel_rfl
theorem sz47 : szOf Try.prog 47 = some 1 := by kernel_rfl
theorem by47 : byOf Try.prog 47 = some 8 := by kernel_rfl
theorem zc47 : zc Try.prog 47 = some [.nilFunc] := by kernel_rfl
theorem sc47 : scal Try.prog 47 = true := by kernel_rfl
theorem zv47 : zvOf Try.prog 47 = some (.nilFunc) := by kernel_rfl
theorem sz48 : szOf Try.prog 48 = some 1 := by kernel_rfl
theorem by48 : byOf Try.prog 48 = some 8 := by kernel_rfl
theorem zc48 : zc Try.prog 48 = some [.nilFunc] := by kernel_rfl
theorem sc48 : scal Try.prog 48 = true := by kernel_rfl
theorem zv48 : zvOf Try.prog 48 = some (.nilFunc) := by kernel_rfl
theorem sz49 : szOf Try.prog 49 = some 3 := by kernel_rfl
theorem by49 : byOf Try.prog 49 = some 48 := by kernel_rfl
theorem zc49 : zc Try.prog 49 = some [.string ⟨#[]⟩, .string ⟨#[]⟩, .string ⟨#[]⟩] := by kernel_rfl
theorem ag49 : aggr Try.prog 49 = true := by kernel_rfl
theorem ar49 : arrT Try.prog 49 = some (3, 9) := by kernel_rfl
theorem sz50 : szOf Try.prog 50 = some 1 := by kernel_rfl
theorem by50 : byOf Try.prog 50 = some 8 := by kernel_rfl
theorem zc50 : zc Try.prog 50 = some [.nilFunc] := by kernel_rfl
theorem sc50 : scal Try.prog 50 = true := by kernel_rfl
theorem zv50 : zvOf Try.prog 50 = some (.nilFunc) := by kernel_rfl
theorem sz51 : szOf Try.prog 51 = some 1 := by kernel_rfl
theorem by51 : byOf Try.prog 51 = some 24 := by kernel_rfl
theorem zc51 : zc Try.prog 51 = some [.slice none 0 0] := by kernel_rfl
theorem sc51 : scal Try.prog 51 = true := by kernel_rfl
theorem zv51 : zvOf Try.prog 51 = some (.slice none 0 0) := by kernel_rfl
theorem se51 : slEl Try.prog 51 = some 9 := by kernel_rfl
theorem sz52 : szOf Try.prog 52 = some 1 := by kernel_rfl
theorem by52 : byOf Try.prog 52 = some 8 := by kernel_rfl
theorem zc52 : zc Try.prog 52 = some [.nilFunc] := by kernel_rfl
theorem sc52 : scal Try.prog 52 = true := by kernel_rfl
theorem zv52 : zvOf Try.prog 52 = some (.nilFunc) := by kernel_rfl
theorem sz53 : szOf Try.prog 53 = some 1 := by kernel_rfl
theorem by53 : byOf Try.prog 53 = some 8 := by kernel_rfl
theorem zc53 : zc Try.prog 53 = some [.nilFunc] := by kernel_rfl
theorem sc53 : scal Try.prog 53 = true := by kernel_rfl
theorem zv53 : zvOf Try.prog 53 = some (.nilFunc) := by kernel_rfl
theorem sz54 : szOf Try.prog 54 = some 1 := by kernel_rfl
theorem by54 : byOf Try.prog 54 = some 8 := by kernel_rfl
theorem zc54 : zc Try.prog 54 = some [.pointer none] := by kernel_rfl
theorem sc54 : scal Try.prog 54 = true := by kernel_rfl
theorem zv54 : zvOf Try.prog 54 = some (.pointer none) := by kernel_rfl
theorem pp54 : isPtr Try.prog 54 = true := by kernel_rfl
theorem sz55 : szOf Try.prog 55 = some 1 := by kernel_rfl
theorem by55 : byOf Try.prog 55 = some 24 := by kernel_rfl
theorem zc55 : zc Try.prog 55 = some [.slice none 0 0] := by kernel_rfl
theorem sc55 : scal Try.prog 55 = true := by kernel_rfl
theorem zv55 : zvOf Try.prog 55 = some (.slice none 0 0) := by kernel_rfl
theorem se55 : slEl Try.prog 55 = some 5 := by kernel_rfl
theorem sz56 : szOf Try.prog 56 = some 2 := by kernel_rfl
theorem by56 : byOf Try.prog 56 = some 32 := by kernel_rfl
theorem zc56 : zc Try.prog 56 = some [.pointer none, .slice none 0 0] := by kernel_rfl
theorem ag56 : aggr Try.prog 56 = true := by kernel_rfl
theorem pl56 : plOf Try.prog 56 = some [(0, 1), (1, 1)] := by kernel_rfl
theorem fl56_0 : fld Try.prog 56 0 = some 0 := by kernel_rfl
theorem fl56_1 : fld Try.prog 56 1 = some 1 := by kernel_rfl
theorem sz57 : szOf Try.prog 57 = some 2 := by kernel_rfl
theorem by57 : byOf Try.prog 57 = some 32 := by kernel_rfl
theorem zc57 : zc Try.prog 57 = some [.pointer none, .slice none 0 0] := by kernel_rfl
theorem ag57 : aggr Try.prog 57 = true := by kernel_rfl
theorem pl57 : plOf Try.prog 57 = some [(0, 1), (1, 1)] := by kernel_rfl
theorem fl57_0 : fld Try.prog 57 0 = some 0 := by kernel_rfl
theorem fl57_1 : fld Try.prog 57 1 = some 1 := by kernel_rfl
theorem sz58 : szOf Try.prog 58 = some 1 := by kernel_rfl
theorem by58 : byOf Try.prog 58 = some 8 := by kernel_rfl
theorem zc58 : zc Try.prog 58 = some [.nilFunc] := by kernel_rfl
theorem sc58 : scal Try.prog 58 = true := by kernel_rfl
theorem zv58 : zvOf Try.prog 58 = some (.nilFunc) := by kernel_rfl
theorem sz59 : szOf Try.prog 59 = some 1 := by kernel_rfl
theorem by59 : byOf Try.prog 59 = some 16 := by kernel_rfl
theorem zc59 : zc Try.prog 59 = some [.nilIface] := by kernel_rfl
theorem sc59 : scal Try.prog 59 = true := by kernel_rfl
theorem zv59 : zvOf Try.prog 59 = some (.nilIface) := by kernel_rfl
theorem sz60 : szOf Try.prog 60 = some 1 := by kernel_rfl
theorem by60 : byOf Try.prog 60 = some 16 := by kernel_rfl
theorem zc60 : zc Try.prog 60 = some [.nilIface] := by kernel_rfl
theorem sc60 : scal Try.prog 60 = true := by kernel_rfl
theorem zv60 : zvOf Try.prog 60 = some (.nilIface) := by kernel_rfl
theorem sz62 : szOf Try.prog 62 = some 1 := by kernel_rfl
theorem by62 : byOf Try.prog 62 = some 8 := by kernel_rfl
theorem zc62 : zc Try.prog 62 = some [.nilFunc] := by kernel_rfl
theorem sc62 : scal Try.prog 62 = true := by kernel_rfl
theorem zv62 : zvOf Try.prog 62 = some (.nilFunc) := by kernel_rfl
theorem sz63 : szOf Try.prog 63 = some 1 := by kernel_rfl
theorem by63 : byOf Try.prog 63 = some 8 := by kernel_rfl
theorem zc63 : zc Try.prog 63 = some [.nilFunc] := by kernel_rfl
theorem sc63 : scal Try.prog 63 = true := by kernel_rfl
theorem zv63 : zvOf Try.prog 63 = some (.nilFunc) := by kernel_rfl
theorem sz64 : szOf Try.prog 64 = some 1 := by kernel_rfl
theorem by64 : byOf Try.prog 64 = some 8 := by kernel_rfl
theorem zc64 : zc Try.prog 64 = some [.nilFunc] := by kernel_rfl
theorem sc64 : scal Try.prog 64 = true := by kernel_rfl
theorem zv64 : zvOf Try.prog 64 = some (.nilFunc) := by kernel_rfl
theorem sz65 : szOf Try.prog 65 = some 1 := by kernel_rfl
theorem by65 : byOf Try.prog 65 = some 8 := by kernel_rfl
theorem zc65 : zc Try.prog 65 = some [.nilFunc] := by kernel_rfl
theorem sc65 : scal Try.prog 65 = true := by kernel_rfl
theorem zv65 : zvOf Try.prog 65 = some (.nilFunc) := by kernel_rfl
theorem sz66 : szOf Try.prog 66 = some 1 := by kernel_rfl
theorem by66 : byOf Try.prog 66 = some 8 := by kernel_rfl
theorem zc66 : zc Try.prog 66 = some [.nilFunc] := by kernel_rfl
theorem sc66 : scal Try.prog 66 = true := by kernel_rfl
theorem zv66 : zvOf Try.prog 66 = some (.nilFunc) := by kernel_rfl
theorem sz67 : szOf Try.prog 67 = some 1 := by kernel_rfl
theorem by67 : byOf Try.prog 67 = some 8 := by kernel_rfl
theorem zc67 : zc Try.prog 67 = some [.nilFunc] := by kernel_rfl
theorem sc67 : scal Try.prog 67 = true := by kernel_rfl
theorem zv67 : zvOf Try.prog 67 = some (.nilFunc) := by kernel_rfl
theorem sz69 : szOf Try.prog 69 = some 1 := by kernel_rfl
theorem by69 : byOf Try.prog 69 = some 8 := by kernel_rfl
theorem zc69 : zc Try.prog 69 = some [.nilFunc] := by kernel_rfl
theorem sc69 : scal Try.prog 69 = true := by kernel_rfl
theorem zv69 : zvOf Try.prog 69 = some (.nilFunc) := by kernel_rfl
theorem sz70 : szOf Try.prog 70 = some 1 := by kernel_rfl
theorem by70 : byOf Try.prog 70 = some 8 := by kernel_rfl
theorem zc70 : zc Try.prog 70 = some [.nilFunc] := by kernel_rfl
theorem sc70 : scal Try.prog 70 = true := by kernel_rfl
theorem zv70 : zvOf Try.prog 70 = some (.nilFunc) := by kernel_rfl
theorem sz72 : szOf Try.prog 72 = some 1 := by kernel_rfl
theorem by72 : byOf Try.prog 72 = some 8 := by kernel_rfl
theorem zc72 : zc Try.prog 72 = some [.nilFunc] := by kernel_rfl
theorem sc72 : scal Try.prog 72 = true := by kernel_rfl
theorem zv72 : zvOf Try.prog 72 = some (.nilFunc) := by kernel_rfl
theorem sz73 : szOf Try.prog 73 = some 1 := by kernel_rfl
theorem by73 : byOf Try.prog 73 = some 8 := by kernel_rfl
theorem zc73 : zc Try.prog 73 = some [.nilFunc] := by kernel_rfl
theorem sc73 : scal Try.prog 73 = true := by kernel_rfl
theorem zv73 : zvOf Try.prog 73 = some (.nilFunc) := by kernel_rfl
theorem sz74 : szOf Try.prog 74 = some 1 := by kernel_rfl
theorem by74 : byOf Try.prog 74 = some 8 := by kernel_rfl
theorem zc74 : zc Try.prog 74 = some [.pointer none] := by kernel_rfl
theorem sc74 : scal Try.prog 74 = true := by kernel_rfl
theorem zv74 : zvOf Try.prog 74 = some (.pointer none) := by kernel_rfl
theorem pp74 : isPtr Try.prog 74 = true := by kernel_rfl
theorem sz75 : szOf Try.prog 75 = some 2 := by kernel_rfl
theorem by75 : byOf Try.prog 75 = some 24 := by kernel_rfl
theorem zc75 : zc Try.prog 75 = some [.string ⟨#[]⟩, .bool false] := by kernel_rfl
theorem ag75 : aggr Try.prog 75 = true := by kernel_rfl
theorem pl75 : plOf Try.prog 75 = some [(0, 1), (1, 1)] := by kernel_rfl
theorem fl75_0 : fld Try.prog 75 0 = some 0 := by kernel_rfl
theorem fl75_1 : fld Try.prog 75 1 = some 1 := by kernel_rfl
theorem sz76 : szOf Try.prog 76 = some 2 := by kernel_rfl
theorem by76 : byOf Try.prog 76 = some 24 := by kernel_rfl
theorem zc76 : zc Try.prog 76 = some [.string ⟨#[]⟩, .bool false] := by kernel_rfl
theorem ag76 : aggr Try.prog 76 = true := by kernel_rfl
theorem pl76 : plOf Try.prog 76 = some [(0, 1), (1, 1)] := by kernel_rfl
theorem fk76 : fkinds Try.prog 76 = some [(1, 0), (2, 1)] := by kernel_rfl
theorem si76 : Try.prog.stoodInHeld 76 = false := by kernel_rfl
theorem eg76 : Try.prog.eqGuardType Try.prog.depth 76 = false := by kernel_rfl
theorem fl76_0 : fld Try.prog 76 0 = some 0 := by kernel_rfl
theorem fl76_1 : fld Try.prog 76 1 = some 1 := by kernel_rfl
theorem sz77 : szOf Try.prog 77 = some 1 := by kernel_rfl
theorem by77 : byOf Try.prog 77 = some 8 := by kernel_rfl
theorem zc77 : zc Try.prog 77 = some [.nilFunc] := by kernel_rfl
theorem sc77 : scal Try.prog 77 = true := by kernel_rfl
theorem zv77 : zvOf Try.prog 77 = some (.nilFunc) := by kernel_rfl
theorem sz78 : szOf Try.prog 78 = some 1 := by kernel_rfl
theorem by78 : byOf Try.prog 78 = some 8 := by kernel_rfl
theorem zc78 : zc Try.prog 78 = some [.nilFunc] := by kernel_rfl
theorem sc78 : scal Try.prog 78 = true := by kernel_rfl
theorem zv78 : zvOf Try.prog 78 = some (.nilFunc) := by kernel_rfl
theorem sz79 : szOf Try.prog 79 = some 1 := by kernel_rfl
theorem by79 : byOf Try.prog 79 = some 8 := by kernel_rfl
theorem zc79 : zc Try.prog 79 = some [.nilFunc] := by kernel_rfl
theorem sc79 : scal Try.prog 79 = true := by kernel_rfl
theorem zv79 : zvOf Try.prog 79 = some (.nilFunc) := by kernel_rfl
theorem sz80 : szOf Try.prog 80 = some 1 := by kernel_rfl
theorem by80 : byOf Try.prog 80 = some 8 := by kernel_rfl
theorem zc80 : zc Try.prog 80 = some [.nilFunc] := by kernel_rfl
theorem sc80 : scal Try.prog 80 = true := by kernel_rfl
theorem zv80 : zvOf Try.prog 80 = some (.nilFunc) := by kernel_rfl
theorem sz81 : szOf Try.prog 81 = some 1 := by kernel_rfl
theorem by81 : byOf Try.prog 81 = some 8 := by kernel_rfl
theorem zc81 : zc Try.prog 81 = some [.nilFunc] := by kernel_rfl
theorem sc81 : scal Try.prog 81 = true := by kernel_rfl
theorem zv81 : zvOf Try.prog 81 = some (.nilFunc) := by kernel_rfl
theorem sz82 : szOf Try.prog 82 = some 1 := by kernel_rfl
theorem by82 : byOf Try.prog 82 = some 8 := by kernel_rfl
theorem zc82 : zc Try.prog 82 = some [.nilFunc] := by kernel_rfl
theorem sc82 : scal Try.prog 82 = true := by kernel_rfl
theorem zv82 : zvOf Try.prog 82 = some (.nilFunc) := by kernel_rfl
theorem sz83 : szOf Try.prog 83 = some 1 := by kernel_rfl
theorem by83 : byOf Try.prog 83 = some 8 := by kernel_rfl
theorem zc83 : zc Try.prog 83 = some [.map none] := by kernel_rfl
theorem sc83 : scal Try.prog 83 = true := by kernel_rfl
theorem zv83 : zvOf Try.prog 83 = some (.map none) := by kernel_rfl
theorem mp83 : mapT Try.prog 83 = some (3, 4) := by kernel_rfl
theorem sz84 : szOf Try.prog 84 = some 1 := by kernel_rfl
theorem by84 : byOf Try.prog 84 = some 8 := by kernel_rfl
theorem zc84 : zc Try.prog 84 = some [.nilFunc] := by kernel_rfl
theorem sc84 : scal Try.prog 84 = true := by kernel_rfl
theorem zv84 : zvOf Try.prog 84 = some (.nilFunc) := by kernel_rfl
theorem sz85 : szOf Try.prog 85 = some 1 := by kernel_rfl
theorem by85 : byOf Try.prog 85 = some 8 := by kernel_rfl
theorem zc85 : zc Try.prog 85 = some [.nilFunc] := by kernel_rfl
theorem sc85 : scal Try.prog 85 = true := by kernel_rfl
theorem zv85 : zvOf Try.prog 85 = some (.nilFunc) := by kernel_rfl
theorem sz86 : szOf Try.prog 86 = some 1 := by kernel_rfl
theorem by86 : byOf Try.prog 86 = some 8 := by kernel_rfl
theorem zc86 : zc Try.prog 86 = some [.nilFunc] := by kernel_rfl
theorem sc86 : scal Try.prog 86 = true := by kernel_rfl
theorem zv86 : zvOf Try.prog 86 = some (.nilFunc) := by kernel_rfl
theorem sz87 : szOf Try.prog 87 = some 1 := by kernel_rfl
theorem by87 : byOf Try.prog 87 = some 8 := by kernel_rfl
theorem zc87 : zc Try.prog 87 = some [.nilFunc] := by kernel_rfl
theorem sc87 : scal Try.prog 87 = true := by kernel_rfl
theorem zv87 : zvOf Try.prog 87 = some (.nilFunc) := by kernel_rfl
theorem sz88 : szOf Try.prog 88 = some 1 := by kernel_rfl
theorem by88 : byOf Try.prog 88 = some 8 := by kernel_rfl
theorem zc88 : zc Try.prog 88 = some [.nilFunc] := by kernel_rfl
theorem sc88 : scal Try.prog 88 = true := by kernel_rfl
theorem zv88 : zvOf Try.prog 88 = some (.nilFunc) := by kernel_rfl
theorem sz89 : szOf Try.prog 89 = some 1 := by kernel_rfl
theorem by89 : byOf Try.prog 89 = some 8 := by kernel_rfl
theorem zc89 : zc Try.prog 89 = some [.nilFunc] := by kernel_rfl
theorem sc89 : scal Try.prog 89 = true := by kernel_rfl
theorem zv89 : zvOf Try.prog 89 = some (.nilFunc) := by kernel_rfl
theorem sz90 : szOf Try.prog 90 = some 1 := by kernel_rfl
theorem by90 : byOf Try.prog 90 = some 8 := by kernel_rfl
theorem zc90 : zc Try.prog 90 = some [.nilFunc] := by kernel_rfl
theorem sc90 : scal Try.prog 90 = true := by kernel_rfl
theorem zv90 : zvOf Try.prog 90 = some (.nilFunc) := by kernel_rfl
theorem sz91 : szOf Try.prog 91 = some 1 := by kernel_rfl
theorem by91 : byOf Try.prog 91 = some 8 := by kernel_rfl
theorem zc91 : zc Try.prog 91 = some [.int .u64 0] := by kernel_rfl
theorem sc91 : scal Try.prog 91 = true := by kernel_rfl
theorem zv91 : zvOf Try.prog 91 = some (.int .u64 0) := by kernel_rfl
theorem in91 : intT Try.prog 91 = some .u64 := by kernel_rfl
theorem sz92 : szOf Try.prog 92 = some 1 := by kernel_rfl
theorem by92 : byOf Try.prog 92 = some 8 := by kernel_rfl
theorem zc92 : zc Try.prog 92 = some [.pointer none] := by kernel_rfl
theorem sc92 : scal Try.prog 92 = true := by kernel_rfl
theorem zv92 : zvOf Try.prog 92 = some (.pointer none) := by kernel_rfl
theorem pp92 : isPtr Try.prog 92 = true := by kernel_rfl
theorem sz93 : szOf Try.prog 93 = some 1 := by kernel_rfl
theorem by93 : byOf Try.prog 93 = some 8 := by kernel_rfl
theorem zc93 : zc Try.prog 93 = some [.nilFunc] := by kernel_rfl
theorem sc93 : scal Try.prog 93 = true := by kernel_rfl
theorem zv93 : zvOf Try.prog 93 = some (.nilFunc) := by kernel_rfl
theorem sz94 : szOf Try.prog 94 = some 1 := by kernel_rfl
theorem by94 : byOf Try.prog 94 = some 8 := by kernel_rfl
theorem zc94 : zc Try.prog 94 = some [.nilFunc] := by kernel_rfl
theorem sc94 : scal Try.prog 94 = true := by kernel_rfl
theorem zv94 : zvOf Try.prog 94 = some (.nilFunc) := by kernel_rfl
theorem sz95 : szOf Try.prog 95 = some 1 := by kernel_rfl
theorem by95 : byOf Try.prog 95 = some 8 := by kernel_rfl
theorem zc95 : zc Try.prog 95 = some [.nilFunc] := by kernel_rfl
theorem sc95 : scal Try.prog 95 = true := by kernel_rfl
theorem zv95 : zvOf Try.prog 95 = some (.nilFunc) := by kernel_rfl
theorem sz96 : szOf Try.prog 96 = some 1 := by kernel_rfl
theorem by96 : byOf Try.prog 96 = some 8 := by kernel_rfl
theorem zc96 : zc Try.prog 96 = some [.nilFunc] := by kernel_rfl
theorem sc96 : scal Try.prog 96 = true := by kernel_rfl
theorem zv96 : zvOf Try.prog 96 = some (.nilFunc) := by kernel_rfl
theorem sz97 : szOf Try.prog 97 = some 1 := by kernel_rfl
theorem by97 : byOf Try.prog 97 = some 8 := by kernel_rfl
theorem zc97 : zc Try.prog 97 = some [.nilFunc] := by kernel_rfl
theorem sc97 : scal Try.prog 97 = true := by kernel_rfl
theorem zv97 : zvOf Try.prog 97 = some (.nilFunc) := by kernel_rfl
theorem sz98 : szOf Try.prog 98 = some 1 := by kernel_rfl
theorem by98 : byOf Try.prog 98 = some 8 := by kernel_rfl
theorem zc98 : zc Try.prog 98 = some [.nilFunc] := by kernel_rfl
theorem sc98 : scal Try.prog 98 = true := by kernel_rfl
theorem zv98 : zvOf Try.prog 98 = some (.nilFunc) := by kernel_rfl
theorem sz99 : szOf Try.prog 99 = some 1 := by kernel_rfl
theorem by99 : byOf Try.prog 99 = some 8 := by kernel_rfl
theorem zc99 : zc Try.prog 99 = some [.nilFunc] := by kernel_rfl
theorem sc99 : scal Try.prog 99 = true := by kernel_rfl
theorem zv99 : zvOf Try.prog 99 = some (.nilFunc) := by kernel_rfl
theorem sz100 : szOf Try.prog 100 = some 1 := by kernel_rfl
theorem by100 : byOf Try.prog 100 = some 8 := by kernel_rfl
theorem zc100 : zc Try.prog 100 = some [.pointer none] := by kernel_rfl
theorem sc100 : scal Try.prog 100 = true := by kernel_rfl
theorem zv100 : zvOf Try.prog 100 = some (.pointer none) := by kernel_rfl
theorem sz101 : szOf Try.prog 101 = some 1 := by kernel_rfl
theorem by101 : byOf Try.prog 101 = some 8 := by kernel_rfl
theorem zc101 : zc Try.prog 101 = some [.nilFunc] := by kernel_rfl
theorem sc101 : scal Try.prog 101 = true := by kernel_rfl
theorem zv101 : zvOf Try.prog 101 = some (.nilFunc) := by kernel_rfl
theorem sz102 : szOf Try.prog 102 = some 1 := by kernel_rfl
theorem by102 : byOf Try.prog 102 = some 8 := by kernel_rfl
theorem zc102 : zc Try.prog 102 = some [.nilFunc] := by kernel_rfl
theorem sc102 : scal Try.prog 102 = true := by kernel_rfl
theorem zv102 : zvOf Try.prog 102 = some (.nilFunc) := by kernel_rfl
theorem sz103 : szOf Try.prog 103 = some 1 := by kernel_rfl
theorem by103 : byOf Try.prog 103 = some 8 := by kernel_rfl
theorem zc103 : zc Try.prog 103 = some [.nilFunc] := by kernel_rfl
theorem sc103 : scal Try.prog 103 = true := by kernel_rfl
theorem zv103 : zvOf Try.prog 103 = some (.nilFunc) := by kernel_rfl
theorem sz104 : szOf Try.prog 104 = some 4 := by kernel_rfl
theorem by104 : byOf Try.prog 104 = some 40 := by kernel_rfl
theorem zc104 : zc Try.prog 104 = some [.pointer none, .pointer none, .pointer none, .string ⟨#[]⟩] := by kernel_rfl
theorem ag104 : aggr Try.prog 104 = true := by kernel_rfl
theorem pl104 : plOf Try.prog 104 = some [(0, 1), (1, 1), (2, 1), (3, 1)] := by kernel_rfl
theorem fl104_0 : fld Try.prog 104 0 = some 0 := by kernel_rfl
theorem fl104_1 : fld Try.prog 104 1 = some 1 := by kernel_rfl
theorem fl104_2 : fld Try.prog 104 2 = some 2 := by kernel_rfl
theorem fl104_3 : fld Try.prog 104 3 = some 3 := by kernel_rfl
theorem sz105 : szOf Try.prog 105 = some 4 := by kernel_rfl
theorem by105 : byOf Try.prog 105 = some 40 := by kernel_rfl
theorem zc105 : zc Try.prog 105 = some [.pointer none, .pointer none, .pointer none, .string ⟨#[]⟩] := by kernel_rfl
theorem ag105 : aggr Try.prog 105 = true := by kernel_rfl
theorem pl105 : plOf Try.prog 105 = some [(0, 1), (1, 1), (2, 1), (3, 1)] := by kernel_rfl
theorem fl105_0 : fld Try.prog 105 0 = some 0 := by kernel_rfl
theorem fl105_1 : fld Try.prog 105 1 = some 1 := by kernel_rfl
theorem fl105_2 : fld Try.prog 105 2 = some 2 := by kernel_rfl
theorem fl105_3 : fld Try.prog 105 3 = some 3 := by kernel_rfl
theorem sz106 : szOf Try.prog 106 = some 0 := by kernel_rfl
theorem by106 : byOf Try.prog 106 = some 0 := by kernel_rfl
theorem zc106 : zc Try.prog 106 = some [] := by kernel_rfl
theorem ag106 : aggr Try.prog 106 = true := by kernel_rfl
theorem ar106 : arrT Try.prog 106 = some (0, 16) := by kernel_rfl
theorem sz107 : szOf Try.prog 107 = some 0 := by kernel_rfl
theorem by107 : byOf Try.prog 107 = some 0 := by kernel_rfl
theorem zc107 : zc Try.prog 107 = some [] := by kernel_rfl
theorem ag107 : aggr Try.prog 107 = true := by kernel_rfl
theorem pl107 : plOf Try.prog 107 = some [(0, 0)] := by kernel_rfl
theorem sz108 : szOf Try.prog 108 = some 0 := by kernel_rfl
theorem by108 : byOf Try.prog 108 = some 0 := by kernel_rfl
theorem zc108 : zc Try.prog 108 = some [] := by kernel_rfl
theorem ag108 : aggr Try.prog 108 = true := by kernel_rfl
theorem pl108 : plOf Try.prog 108 = some [(0, 0)] := by kernel_rfl
theorem sz109 : szOf Try.prog 109 = some 1 := by kernel_rfl
theorem by109 : byOf Try.prog 109 = some 4 := by kernel_rfl
theorem zc109 : zc Try.prog 109 = some [.int .u32 0] := by kernel_rfl
theorem sc109 : scal Try.prog 109 = true := by kernel_rfl
theorem zv109 : zvOf Try.prog 109 = some (.int .u32 0) := by kernel_rfl
theorem in109 : intT Try.prog 109 = some .u32 := by kernel_rfl
theorem sz110 : szOf Try.prog 110 = some 1 := by kernel_rfl
theorem by110 : byOf Try.prog 110 = some 1 := by kernel_rfl
theorem zc110 : zc Try.prog 110 = some [.int .u8 0] := by kernel_rfl
theorem sc110 : scal Try.prog 110 = true := by kernel_rfl
theorem zv110 : zvOf Try.prog 110 = some (.int .u8 0) := by kernel_rfl
theorem in110 : intT Try.prog 110 = some .u8 := by kernel_rfl
theorem sz111 : szOf Try.prog 111 = some 1 := by kernel_rfl
theorem by111 : byOf Try.prog 111 = some 1 := by kernel_rfl
theorem zc111 : zc Try.prog 111 = some [.int .u8 0] := by kernel_rfl
theorem sc111 : scal Try.prog 111 = true := by kernel_rfl
theorem zv111 : zvOf Try.prog 111 = some (.int .u8 0) := by kernel_rfl
theorem in111 : intT Try.prog 111 = some .u8 := by kernel_rfl
theorem sz112 : szOf Try.prog 112 = some 1 := by kernel_rfl
theorem by112 : byOf Try.prog 112 = some 8 := by kernel_rfl
theorem zc112 : zc Try.prog 112 = some [.nilFunc] := by kernel_rfl
theorem sc112 : scal Try.prog 112 = true := by kernel_rfl
theorem zv112 : zvOf Try.prog 112 = some (.nilFunc) := by kernel_rfl
theorem sz113 : szOf Try.prog 113 = some 1 := by kernel_rfl
theorem by113 : byOf Try.prog 113 = some 4 := by kernel_rfl
theorem zc113 : zc Try.prog 113 = some [.int .i32 0] := by kernel_rfl
theorem sc113 : scal Try.prog 113 = true := by kernel_rfl
theorem zv113 : zvOf Try.prog 113 = some (.int .i32 0) := by kernel_rfl
theorem in113 : intT Try.prog 113 = some .i32 := by kernel_rfl
theorem sz114 : szOf Try.prog 114 = some 1 := by kernel_rfl
theorem by114 : byOf Try.prog 114 = some 4 := by kernel_rfl
theorem zc114 : zc Try.prog 114 = some [.int .i32 0] := by kernel_rfl
theorem sc114 : scal Try.prog 114 = true := by kernel_rfl
theorem zv114 : zvOf Try.prog 114 = some (.int .i32 0) := by kernel_rfl
theorem in114 : intT Try.prog 114 = some .i32 := by kernel_rfl
theorem sz115 : szOf Try.prog 115 = some 11 := by kernel_rfl
theorem by115 : byOf Try.prog 115 = some 48 := by kernel_rfl
theorem zc115 : zc Try.prog 115 = some [.int .u64 0, .int .u64 0, .int .u32 0, .int .u8 0, .int .u8 0, .int .u8 0, .int .u8 0, .nilFunc, .pointer none, .int .i32 0, .int .i32 0] := by kernel_rfl
theorem ag115 : aggr Try.prog 115 = true := by kernel_rfl
theorem pl115 : plOf Try.prog 115 = some [(0, 1), (1, 1), (2, 1), (3, 1), (4, 1), (5, 1), (6, 1), (7, 1), (8, 1), (9, 1), (10, 1)] := by kernel_rfl
theorem fl115_0 : fld Try.prog 115 0 = some 0 := by kernel_rfl
theorem fl115_1 : fld Try.prog 115 1 = some 1 := by kernel_rfl
theorem fl115_2 : fld Try.prog 115 2 = some 2 := by kernel_rfl
theorem fl115_3 : fld Try.prog 115 3 = some 3 := by kernel_rfl
theorem fl115_4 : fld Try.prog 115 4 = some 4 := by kernel_rfl
theorem fl115_5 : fld Try.prog 115 5 = some 5 := by kernel_rfl
theorem fl115_6 : fld Try.prog 115 6 = some 6 := by kernel_rfl
theorem fl115_7 : fld Try.prog 115 7 = some 7 := by kernel_rfl
theorem fl115_8 : fld Try.prog 115 8 = some 8 := by kernel_rfl
theorem fl115_9 : fld Try.prog 115 9 = some 9 := by kernel_rfl
theorem fl115_10 : fld Try.prog 115 10 = some 10 := by kernel_rfl
theorem sz116 : szOf Try.prog 116 = some 11 := by kernel_rfl
theorem by116 : byOf Try.prog 116 = some 48 := by kernel_rfl
theorem zc116 : zc Try.prog 116 = some [.int .u64 0, .int .u64 0, .int .u32 0, .int .u8 0, .int .u8 0, .int .u8 0, .int .u8 0, .nilFunc, .pointer none, .int .i32 0, .int .i32 0] := by kernel_rfl
theorem ag116 : aggr Try.prog 116 = true := by kernel_rfl
theorem pl116 : plOf Try.prog 116 = some [(0, 1), (1, 1), (2, 1), (3, 1), (4, 1), (5, 1), (6, 1), (7, 1), (8, 1), (9, 1), (10, 1)] := by kernel_rfl
theorem fl116_0 : fld Try.prog 116 0 = some 0 := by kernel_rfl
theorem fl116_1 : fld Try.prog 116 1 = some 1 := by kernel_rfl
theorem fl116_2 : fld Try.prog 116 2 = some 2 := by kernel_rfl
theorem fl116_3 : fld Try.prog 116 3 = some 3 := by kernel_rfl
theorem fl116_4 : fld Try.prog 116 4 = some 4 := by kernel_rfl
theorem fl116_5 : fld Try.prog 116 5 = some 5 := by kernel_rfl
theorem fl116_6 : fld Try.prog 116 6 = some 6 := by kernel_rfl
theorem fl116_7 : fld Try.prog 116 7 = some 7 := by kernel_rfl
theorem fl116_8 : fld Try.prog 116 8 = some 8 := by kernel_rfl
theorem fl116_9 : fld Try.prog 116 9 = some 9 := by kernel_rfl
theorem fl116_10 : fld Try.prog 116 10 = some 10 := by kernel_rfl
theorem ca2 : callable Try.prog 2 = true := by kernel_rfl
theorem ca3 : callable Try.prog 3 = true := by kernel_rfl
theorem ca4 : callable Try.prog 4 = true := by kernel_rfl
theorem ca5 : callable Try.prog 5 = true := by kernel_rfl
theorem ca6 : callable Try.prog 6 = true := by kernel_rfl
theorem ca7 : callable Try.prog 7 = true := by kernel_rfl
theorem ca8 : callable Try.prog 8 = true := by kernel_rfl
theorem ca9 : callable Try.prog 9 = true := by kernel_rfl
theorem ca10 : callable Try.prog 10 = true := by kernel_rfl
theorem ca11 : callable Try.prog 11 = true := by kernel_rfl
theorem ca12 : callable Try.prog 12 = true := by kernel_rfl
theorem ca13 : callable Try.prog 13 = true := by kernel_rfl
theorem ca14 : callable Try.prog 14 = true := by kernel_rfl
theorem ca15 : callable Try.prog 15 = true := by kernel_rfl
theorem ca16 : callable Try.prog 16 = true := by kernel_rfl
theorem ca17 : callable Try.prog 17 = true := by kernel_rfl
theorem ca18 : callable Try.prog 18 = true := by kernel_rfl
theorem ca19 : callable Try.prog 19 = true := by kernel_rfl
theorem ca20 : callable Try.prog 20 = true := by kernel_rfl
theorem ca21 : callable Try.prog 21 = true := by kernel_rfl
theorem ca22 : callable Try.prog 22 = true := by kernel_rfl
theorem ca23 : callable Try.prog 23 = true := by kernel_rfl
theorem ca24 : callable Try.prog 24 = true := by kernel_rfl
theorem ca25 : callable Try.prog 25 = true := by kernel_rfl
theorem ca26 : callable Try.prog 26 = true := by kernel_rfl
theorem ca27 : callable Try.prog 27 = true := by kernel_rfl
theorem ca28 : callable Try.prog 28 = true := by kernel_rfl
theorem ca29 : callable Try.prog 29 = true := by kernel_rfl
theorem ca30 : callable Try.prog 30 = true := by kernel_rfl
theorem ca31 : callable Try.prog 31 = true := by kernel_rfl
theorem ca32 : callable Try.prog 32 = true := by kernel_rfl
theorem ca33 : callable Try.prog 33 = true := by kernel_rfl
theorem ca34 : callable Try.prog 34 = true := by kernel_rfl
theorem ca35 : callable Try.prog 35 = true := by kernel_rfl
theorem ca36 : callable Try.prog 36 = true := by kernel_rfl
theorem ca37 : callable Try.prog 37 = true := by kernel_rfl
theorem ca38 : callable Try.prog 38 = true := by kernel_rfl
theorem ca39 : callable Try.prog 39 = true := by kernel_rfl
theorem ca40 : callable Try.prog 40 = true := by kernel_rfl
theorem ca41 : callable Try.prog 41 = true := by kernel_rfl
theorem ca42 : callable Try.prog 42 = true := by kernel_rfl
theorem ca43 : callable Try.prog 43 = true := by kernel_rfl
theorem ca44 : callable Try.prog 44 = true := by kernel_rfl
theorem ca45 : callable Try.prog 45 = true := by kernel_rfl
theorem ca46 : callable Try.prog 46 = true := by kernel_rfl
theorem ca47 : callable Try.prog 47 = true := by kernel_rfl
theorem ca48 : callable Try.prog 48 = true := by kernel_rfl
theorem ca49 : callable Try.prog 49 = true := by kernel_rfl
theorem ca50 : callable Try.prog 50 = true := by kernel_rfl
theorem ca51 : callable Try.prog 51 = true := by kernel_rfl
theorem ca52 : callable Try.prog 52 = true := by kernel_rfl
theorem ca53 : callable Try.prog 53 = true := by kernel_rfl
theorem ca54 : callable Try.prog 54 = true := by kernel_rfl
theorem ca55 : callable Try.prog 55 = true := by kernel_rfl
theorem ca56 : callable Try.prog 56 = true := by kernel_rfl
theorem ca57 : callable Try.prog 57 = true := by kernel_rfl
theorem ca58 : callable Try.prog 58 = true := by kernel_rfl
theorem ca59 : callable Try.prog 59 = true := by kernel_rfl
theorem ca60 : callable Try.prog 60 = true := by kernel_rfl
theorem ca61 : callable Try.prog 61 = true := by kernel_rfl
theorem ca62 : callable Try.prog 62 = true := by kernel_rfl
theorem ca63 : callable Try.prog 63 = true := by kernel_rfl
theorem ca64 : callable Try.prog 64 = true := by kernel_rfl
theorem ca65 : callable Try.prog 65 = true := by kernel_rfl
theorem ca66 : callable Try.prog 66 = true := by kernel_rfl
theorem ca67 : callable Try.prog 67 = true := by kernel_rfl
theorem ca68 : callable Try.prog 68 = true := by kernel_rfl
theorem ca69 : callable Try.prog 69 = true := by kernel_rfl
theorem ca71 : callable Try.prog 71 = true := by kernel_rfl
theorem ca72 : callable Try.prog 72 = true := by kernel_rfl
theorem ca73 : callable Try.prog 73 = true := by kernel_rfl
theorem ca74 : callable Try.prog 74 = true := by kernel_rfl
theorem ca75 : callable Try.prog 75 = true := by kernel_rfl
theorem ca76 : callable Try.prog 76 = true := by kernel_rfl
theorem ca77 : callable Try.prog 77 = true := by kernel_rfl
theorem mixed : Try.prog.follows .mixedOrders = true := by kernel_rfl
end Go.Proofs.Ytiefmfimbmkdjaa
