/- Part 3 of 7 of the proof. -/
import Derived.Test.YtihcolehefloeaaDoorCe2
import Derived.Lib.ItoaNum
import Derived.Test.YtihcolehefloeaaDoorRows
import Derived.LaidMore
import Derived.OpenShut
import Derived.Stop.Joined
import Derived.Test.YtihcolehefloeaaDoorCards
import Derived.Test.YtihcolehefloeaaDoorTie
import Derived.SevenTiedAt
import Derived.Maps.RangeRun
import Derived.Scope
import Derived.Shelf.Spec.SlicesGrow
set_option linter.unusedSimpArgs false
set_option linter.unusedVariables false
/- The table of types as a tree. -/
namespace Go.Proofs.YtihcolehefloeaaDoor

def te1 : TE := ⟨ti1, none⟩
theorem te1_ok : TE.ok Tryd.prog 1 te1 := ⟨ti1_ok, fun g hg => by cases hg⟩
def te2 : TE := ⟨ti2, some (.int .i64)⟩
theorem te2_ok : TE.ok Tryd.prog 2 te2 := ⟨ti2_ok, fun g hg => by cases hg; exact ⟨rfl, rfl, by decide⟩⟩
def te3 : TE := ⟨ti3, some (.int .i64)⟩
theorem te3_ok : TE.ok Tryd.prog 3 te3 := ⟨ti3_ok, fun g hg => by cases hg; exact ⟨rfl, rfl, by decide⟩⟩
def te4 : TE := ⟨ti4, some (.bool)⟩
theorem te4_ok : TE.ok Tryd.prog 4 te4 := ⟨ti4_ok, fun g hg => by cases hg; exact ⟨rfl, rfl, by decide⟩⟩
def te5 : TE := ⟨ti5, some (.int .u8)⟩
theorem te5_ok : TE.ok Tryd.prog 5 te5 := ⟨ti5_ok, fun g hg => by cases hg; exact ⟨rfl, rfl, by decide⟩⟩
def te6 : TE := ⟨ti6, some (.int .u8)⟩
theorem te6_ok : TE.ok Tryd.prog 6 te6 := ⟨ti6_ok, fun g hg => by cases hg; exact ⟨rfl, rfl, by decide⟩⟩
def te9 : TE := ⟨ti9, some (.str)⟩
theorem te9_ok : TE.ok Tryd.prog 9 te9 := ⟨ti9_ok, fun g hg => by cases hg; exact ⟨rfl, rfl, by decide⟩⟩
def te10 : TE := ⟨ti10, some (.str)⟩
theorem te10_ok : TE.ok Tryd.prog 10 te10 := ⟨ti10_ok, fun g hg => by cases hg; exact ⟨rfl, rfl, by decide⟩⟩
def te11 : TE := ⟨ti11, some (.str)⟩
theorem te11_ok : TE.ok Tryd.prog 11 te11 := ⟨ti11_ok, fun g hg => by cases hg; exact ⟨rfl, rfl, by decide⟩⟩
def te12 : TE := ⟨ti12, some (.int .u64)⟩
theorem te12_ok : TE.ok Tryd.prog 12 te12 := ⟨ti12_ok, fun g hg => by cases hg; exact ⟨rfl, rfl, by decide⟩⟩
def te15 : TE := ⟨ti15, none⟩
theorem te15_ok : TE.ok Tryd.prog 15 te15 := ⟨ti15_ok, fun g hg => by cases hg⟩
def te16 : TE := ⟨ti16, none⟩
theorem te16_ok : TE.ok Tryd.prog 16 te16 := ⟨ti16_ok, fun g hg => by cases hg⟩
def te17 : TE := ⟨ti17, none⟩
theorem te17_ok : TE.ok Tryd.prog 17 te17 := ⟨ti17_ok, fun g hg => by cases hg⟩
def te20 : TE := ⟨ti20, none⟩
theorem te20_ok : TE.ok Tryd.prog 20 te20 := ⟨ti20_ok, fun g hg => by cases hg⟩
def te21 : TE := ⟨ti21, some (.int .i32)⟩
theorem te21_ok : TE.ok Tryd.prog 21 te21 := ⟨ti21_ok, fun g hg => by cases hg; exact ⟨rfl, rfl, by decide⟩⟩
def te22 : TE := ⟨ti22, some (.sl (.sl (.int .u8)))⟩
theorem te22_ok : TE.ok Tryd.prog 22 te22 := ⟨ti22_ok, fun g hg => by cases hg; exact ⟨rfl, rfl, by decide⟩⟩
def te23 : TE := ⟨ti23, some (.pair (.int .u8) (.sl (.sl (.int .u8))))⟩
theorem te23_ok : TE.ok Tryd.prog 23 te23 := ⟨ti23_ok, fun g hg => by cases hg; exact ⟨rfl, rfl, by decide⟩⟩
def te24 : TE := ⟨ti24, some (.pair (.int .u8) (.sl (.sl (.int .u8))))⟩
theorem te24_ok : TE.ok Tryd.prog 24 te24 := ⟨ti24_ok, fun g hg => by cases hg; exact ⟨rfl, rfl, by decide⟩⟩
def te25 : TE := ⟨ti25, some (.pair (.int .u8) (.pair (.int .u8) (.pair (.int .u8) (.pair (.int .u8) (.pair (.int .u8) (.pair (.int .u8) (.int .u8)))))))⟩
theorem te25_ok : TE.ok Tryd.prog 25 te25 := ⟨ti25_ok, fun g hg => by cases hg; exact ⟨rfl, rfl, by decide⟩⟩
def te26 : TE := ⟨ti26, some (.sl (.sl (.pair (.int .u8) (.pair (.int .u8) (.pair (.int .i64) (.pair (.int .i64) (.bool)))))))⟩
theorem te26_ok : TE.ok Tryd.prog 26 te26 := ⟨ti26_ok, fun g hg => by cases hg; exact ⟨rfl, rfl, by decide⟩⟩
def te27 : TE := ⟨ti27, some (.sl (.sl (.pair (.int .u8) (.pair (.int .u8) (.pair (.int .i64) (.pair (.int .i64) (.bool)))))))⟩
theorem te27_ok : TE.ok Tryd.prog 27 te27 := ⟨ti27_ok, fun g hg => by cases hg; exact ⟨rfl, rfl, by decide⟩⟩
def te28 : TE := ⟨ti28, some (.sl (.sl (.pair (.int .u8) (.pair (.int .u8) (.pair (.int .i64) (.pair (.int .i64) (.bool)))))))⟩
theorem te28_ok : TE.ok Tryd.prog 28 te28 := ⟨ti28_ok, fun g hg => by cases hg; exact ⟨rfl, rfl, by decide⟩⟩
def te29 : TE := ⟨ti29, none⟩
theorem te29_ok : TE.ok Tryd.prog 29 te29 := ⟨ti29_ok, fun g hg => by cases hg⟩
def te30 : TE := ⟨ti30, some (.sl (.pair (.int .u8) (.int .i64)))⟩
theorem te30_ok : TE.ok Tryd.prog 30 te30 := ⟨ti30_ok, fun g hg => by cases hg; exact ⟨rfl, rfl, by decide⟩⟩
def te31 : TE := ⟨ti31, some (.int .u8)⟩
theorem te31_ok : TE.ok Tryd.prog 31 te31 := ⟨ti31_ok, fun g hg => by cases hg; exact ⟨rfl, rfl, by decide⟩⟩
def te32 : TE := ⟨ti32, some (.pair (.int .u8) (.pair (.int .u8) (.pair (.int .u8) (.pair (.int .u8) (.pair (.int .u8) (.int .u8))))))⟩
theorem te32_ok : TE.ok Tryd.prog 32 te32 := ⟨ti32_ok, fun g hg => by cases hg; exact ⟨rfl, rfl, by decide⟩⟩
def te33 : TE := ⟨ti33, some (.pair (.sl (.pair (.int .u8) (.int .i64))) (.pair (.int .u8) (.pair (.int .u8) (.pair (.int .u8) (.pair (.int .u8) (.pair (.int .u8) (.int .u8)))))))⟩
theorem te33_ok : TE.ok Tryd.prog 33 te33 := ⟨ti33_ok, fun g hg => by cases hg; exact ⟨rfl, rfl, by decide⟩⟩
def te34 : TE := ⟨ti34, some (.pair (.sl (.pair (.int .u8) (.int .i64))) (.pair (.int .u8) (.pair (.int .u8) (.pair (.int .u8) (.pair (.int .u8) (.pair (.int .u8) (.int .u8)))))))⟩
theorem te34_ok : TE.ok Tryd.prog 34 te34 := ⟨ti34_ok, fun g hg => by cases hg; exact ⟨rfl, rfl, by decide⟩⟩
def te35 : TE := ⟨ti35, none⟩
theorem te35_ok : TE.ok Tryd.prog 35 te35 := ⟨ti35_ok, fun g hg => by cases hg⟩
def te36 : TE := ⟨ti36, some (.sl (.pair (.int .u8) (.pair (.int .u8) (.pair (.int .i64) (.pair (.int .i64) (.bool))))))⟩
theorem te36_ok : TE.ok Tryd.prog 36 te36 := ⟨ti36_ok, fun g hg => by cases hg; exact ⟨rfl, rfl, by decide⟩⟩
def te37 : TE := ⟨ti37, some (.int .u8)⟩
theorem te37_ok : TE.ok Tryd.prog 37 te37 := ⟨ti37_ok, fun g hg => by cases hg; exact ⟨rfl, rfl, by decide⟩⟩
def te38 : TE := ⟨ti38, some (.pair (.int .u8) (.int .i64))⟩
theorem te38_ok : TE.ok Tryd.prog 38 te38 := ⟨ti38_ok, fun g hg => by cases hg; exact ⟨rfl, rfl, by decide⟩⟩
def te39 : TE := ⟨ti39, some (.pair (.int .u8) (.int .i64))⟩
theorem te39_ok : TE.ok Tryd.prog 39 te39 := ⟨ti39_ok, fun g hg => by cases hg; exact ⟨rfl, rfl, by decide⟩⟩
def te40 : TE := ⟨ti40, some (.int .u8)⟩
theorem te40_ok : TE.ok Tryd.prog 40 te40 := ⟨ti40_ok, fun g hg => by cases hg; exact ⟨rfl, rfl, by decide⟩⟩
def te41 : TE := ⟨ti41, some (.sl (.pair (.int .u8) (.pair (.int .u8) (.pair (.pair (.int .u8) (.int .i64)) (.pair (.int .u8) (.int .i64))))))⟩
theorem te41_ok : TE.ok Tryd.prog 41 te41 := ⟨ti41_ok, fun g hg => by cases hg; exact ⟨rfl, rfl, by decide⟩⟩
def te42 : TE := ⟨ti42, some (.sl (.int .i64))⟩
theorem te42_ok : TE.ok Tryd.prog 42 te42 := ⟨ti42_ok, fun g hg => by cases hg; exact ⟨rfl, rfl, by decide⟩⟩
def te43 : TE := ⟨ti43, some (.int .u8)⟩
theorem te43_ok : TE.ok Tryd.prog 43 te43 := ⟨ti43_ok, fun g hg => by cases hg; exact ⟨rfl, rfl, by decide⟩⟩
def te44 : TE := ⟨ti44, some (.pair (.int .u8) (.pair (.int .u8) (.pair (.pair (.int .u8) (.int .i64)) (.pair (.int .u8) (.int .i64)))))⟩
theorem te44_ok : TE.ok Tryd.prog 44 te44 := ⟨ti44_ok, fun g hg => by cases hg; exact ⟨rfl, rfl, by decide⟩⟩
def te45 : TE := ⟨ti45, some (.pair (.int .u8) (.pair (.int .u8) (.pair (.pair (.int .u8) (.int .i64)) (.pair (.int .u8) (.int .i64)))))⟩
theorem te45_ok : TE.ok Tryd.prog 45 te45 := ⟨ti45_ok, fun g hg => by cases hg; exact ⟨rfl, rfl, by decide⟩⟩
def te46 : TE := ⟨ti46, some (.int .u8)⟩
theorem te46_ok : TE.ok Tryd.prog 46 te46 := ⟨ti46_ok, fun g hg => by cases hg; exact ⟨rfl, rfl, by decide⟩⟩
def te47 : TE := ⟨ti47, some (.pair (.int .u8) (.pair (.int .u8) (.pair (.int .i64) (.pair (.int .i64) (.bool)))))⟩
theorem te47_ok : TE.ok Tryd.prog 47 te47 := ⟨ti47_ok, fun g hg => by cases hg; exact ⟨rfl, rfl, by decide⟩⟩
def te48 : TE := ⟨ti48, some (.pair (.int .u8) (.pair (.int .u8) (.pair (.int .i64) (.pair (.int .i64) (.bool)))))⟩
theorem te48_ok : TE.ok Tryd.prog 48 te48 := ⟨ti48_ok, fun g hg => by cases hg; exact ⟨rfl, rfl, by decide⟩⟩
def te49 : TE := ⟨ti49, some (.int .i64)⟩
theorem te49_ok : TE.ok Tryd.prog 49 te49 := ⟨ti49_ok, fun g hg => by cases hg; exact ⟨rfl, rfl, by decide⟩⟩
def te52 : TE := ⟨ti52, none⟩
theorem te52_ok : TE.ok Tryd.prog 52 te52 := ⟨ti52_ok, fun g hg => by cases hg⟩
def te57 : TE := ⟨ti57, none⟩
theorem te57_ok : TE.ok Tryd.prog 57 te57 := ⟨ti57_ok, fun g hg => by cases hg⟩
def te58 : TE := ⟨ti58, none⟩
theorem te58_ok : TE.ok Tryd.prog 58 te58 := ⟨ti58_ok, fun g hg => by cases hg⟩
def te59 : TE := ⟨ti59, none⟩
theorem te59_ok : TE.ok Tryd.prog 59 te59 := ⟨ti59_ok, fun g hg => by cases hg⟩
def te60 : TE := ⟨ti60, none⟩
theorem te60_ok : TE.ok Tryd.prog 60 te60 := ⟨ti60_ok, fun g hg => by cases hg⟩
def te61 : TE := ⟨ti61, some (.sl (.sl (.pair (.int .u8) (.int .i64))))⟩
theorem te61_ok : TE.ok Tryd.prog 61 te61 := ⟨ti61_ok, fun g hg => by cases hg; exact ⟨rfl, rfl, by decide⟩⟩
def te63 : TE := ⟨ti63, none⟩
theorem te63_ok : TE.ok Tryd.prog 63 te63 := ⟨ti63_ok, fun g hg => by cases hg⟩
def te64 : TE := ⟨ti64, none⟩
theorem te64_ok : TE.ok Tryd.prog 64 te64 := ⟨ti64_ok, fun g hg => by cases hg⟩
def te65 : TE := ⟨ti65, none⟩
theorem te65_ok : TE.ok Tryd.prog 65 te65 := ⟨ti65_ok, fun g hg => by cases hg⟩
def te66 : TE := ⟨ti66, none⟩
theorem te66_ok : TE.ok Tryd.prog 66 te66 := ⟨ti66_ok, fun g hg => by cases hg⟩
def te68 : TE := ⟨ti68, none⟩
theorem te68_ok : TE.ok Tryd.prog 68 te68 := ⟨ti68_ok, fun g hg => by cases hg⟩
def te70 : TE := ⟨ti70, none⟩
theorem te70_ok : TE.ok Tryd.prog 70 te70 := ⟨ti70_ok, fun g hg => by cases hg⟩
def te71 : TE := ⟨ti71, none⟩
theorem te71_ok : TE.ok Tryd.prog 71 te71 := ⟨ti71_ok, fun g hg => by cases hg⟩
def te72 : TE := ⟨ti72, some (.sl (.int .u8))⟩
theorem te72_ok : TE.ok Tryd.prog 72 te72 := ⟨ti72_ok, fun g hg => by cases hg; exact ⟨rfl, rfl, by decide⟩⟩
def te74 : TE := ⟨ti74, none⟩
theorem te74_ok : TE.ok Tryd.prog 74 te74 := ⟨ti74_ok, fun g hg => by cases hg⟩
def te75 : TE := ⟨ti75, none⟩
theorem te75_ok : TE.ok Tryd.prog 75 te75 := ⟨ti75_ok, fun g hg => by cases hg⟩
def te76 : TE := ⟨ti76, none⟩
theorem te76_ok : TE.ok Tryd.prog 76 te76 := ⟨ti76_ok, fun g hg => by cases hg⟩
def te79 : TE := ⟨ti79, some (.pair (.sl (.pair (.int .u8) (.pair (.int .u8) (.pair (.pair (.int .u8) (.int .i64)) (.pair (.int .u8) (.int .i64)))))) (.int .i64))⟩
theorem te79_ok : TE.ok Tryd.prog 79 te79 := ⟨ti79_ok, fun g hg => by cases hg; exact ⟨rfl, rfl, by decide⟩⟩
def te81 : TE := ⟨ti81, none⟩
theorem te81_ok : TE.ok Tryd.prog 81 te81 := ⟨ti81_ok, fun g hg => by cases hg⟩
def te82 : TE := ⟨ti82, none⟩
theorem te82_ok : TE.ok Tryd.prog 82 te82 := ⟨ti82_ok, fun g hg => by cases hg⟩
def te83 : TE := ⟨ti83, none⟩
theorem te83_ok : TE.ok Tryd.prog 83 te83 := ⟨ti83_ok, fun g hg => by cases hg⟩
def te84 : TE := ⟨ti84, none⟩
theorem te84_ok : TE.ok Tryd.prog 84 te84 := ⟨ti84_ok, fun g hg => by cases hg⟩
def te85 : TE := ⟨ti85, none⟩
theorem te85_ok : TE.ok Tryd.prog 85 te85 := ⟨ti85_ok, fun g hg => by cases hg⟩
def te86 : TE := ⟨ti86, none⟩
theorem te86_ok : TE.ok Tryd.prog 86 te86 := ⟨ti86_ok, fun g hg => by cases hg⟩
def te87 : TE := ⟨ti87, none⟩
theorem te87_ok : TE.ok Tryd.prog 87 te87 := ⟨ti87_ok, fun g hg => by cases hg⟩
def te88 : TE := ⟨ti88, none⟩
theorem te88_ok : TE.ok Tryd.prog 88 te88 := ⟨ti88_ok, fun g hg => by cases hg⟩
def te90 : TE := ⟨ti90, some (.pair (.sl (.int .i64)) (.pair (.sl (.int .i64)) (.pair (.int .i64) (.sl (.int .i64)))))⟩
theorem te90_ok : TE.ok Tryd.prog 90 te90 := ⟨ti90_ok, fun g hg => by cases hg; exact ⟨rfl, rfl, by decide⟩⟩
def te93 : TE := ⟨ti93, none⟩
theorem te93_ok : TE.ok Tryd.prog 93 te93 := ⟨ti93_ok, fun g hg => by cases hg⟩
def te94 : TE := ⟨ti94, none⟩
theorem te94_ok : TE.ok Tryd.prog 94 te94 := ⟨ti94_ok, fun g hg => by cases hg⟩
def te95 : TE := ⟨ti95, some (.pair (.sl (.pair (.int .u8) (.pair (.int .u8) (.pair (.pair (.int .u8) (.int .i64)) (.pair (.int .u8) (.int .i64)))))) (.pair (.int .u8) (.int .u8)))⟩
theorem te95_ok : TE.ok Tryd.prog 95 te95 := ⟨ti95_ok, fun g hg => by cases hg; exact ⟨rfl, rfl, by decide⟩⟩
def te96 : TE := ⟨ti96, some (.pair (.sl (.pair (.int .u8) (.pair (.int .u8) (.pair (.pair (.int .u8) (.int .i64)) (.pair (.int .u8) (.int .i64)))))) (.pair (.int .u8) (.int .u8)))⟩
theorem te96_ok : TE.ok Tryd.prog 96 te96 := ⟨ti96_ok, fun g hg => by cases hg; exact ⟨rfl, rfl, by decide⟩⟩
def te97 : TE := ⟨ti97, none⟩
theorem te97_ok : TE.ok Tryd.prog 97 te97 := ⟨ti97_ok, fun g hg => by cases hg⟩
def te98 : TE := ⟨ti98, none⟩
theorem te98_ok : TE.ok Tryd.prog 98 te98 := ⟨ti98_ok, fun g hg => by cases hg⟩
def te100 : TE := ⟨ti100, none⟩
theorem te100_ok : TE.ok Tryd.prog 100 te100 := ⟨ti100_ok, fun g hg => by cases hg⟩
def te101 : TE := ⟨ti101, some (.sl (.str))⟩
theorem te101_ok : TE.ok Tryd.prog 101 te101 := ⟨ti101_ok, fun g hg => by cases hg; exact ⟨rfl, rfl, by decide⟩⟩
def te102 : TE := ⟨ti102, none⟩
theorem te102_ok : TE.ok Tryd.prog 102 te102 := ⟨ti102_ok, fun g hg => by cases hg⟩
def te103 : TE := ⟨ti103, none⟩
theorem te103_ok : TE.ok Tryd.prog 103 te103 := ⟨ti103_ok, fun g hg => by cases hg⟩
def te105 : TE := ⟨ti105, none⟩
theorem te105_ok : TE.ok Tryd.prog 105 te105 := ⟨ti105_ok, fun g hg => by cases hg⟩
def te106 : TE := ⟨ti106, none⟩
theorem te106_ok : TE.ok Tryd.prog 106 te106 := ⟨ti106_ok, fun g hg => by cases hg⟩
def te107 : TE := ⟨ti107, none⟩
theorem te107_ok : TE.ok Tryd.prog 107 te107 := ⟨ti107_ok, fun g hg => by cases hg⟩
def te108 : TE := ⟨ti108, none⟩
theorem te108_ok : TE.ok Tryd.prog 108 te108 := ⟨ti108_ok, fun g hg => by cases hg⟩
def te109 : TE := ⟨ti109, none⟩
theorem te109_ok : TE.ok Tryd.prog 109 te109 := ⟨ti109_ok, fun g hg => by cases hg⟩
def te110 : TE := ⟨ti110, none⟩
theorem te110_ok : TE.ok Tryd.prog 110 te110 := ⟨ti110_ok, fun g hg => by cases hg⟩
def te111 : TE := ⟨ti111, some (.sl (.sl (.int .i64)))⟩
theorem te111_ok : TE.ok Tryd.prog 111 te111 := ⟨ti111_ok, fun g hg => by cases hg; exact ⟨rfl, rfl, by decide⟩⟩
def te120 : TE := ⟨ti120, some (.pair (.int .u8) (.pair (.int .u8) (.pair (.int .u8) (.bool))))⟩
theorem te120_ok : TE.ok Tryd.prog 120 te120 := ⟨ti120_ok, fun g hg => by cases hg; exact ⟨rfl, rfl, by decide⟩⟩
def te125 : TE := ⟨ti125, none⟩
theorem te125_ok : TE.ok Tryd.prog 125 te125 := ⟨ti125_ok, fun g hg => by cases hg⟩
def te127 : TE := ⟨ti127, none⟩
theorem te127_ok : TE.ok Tryd.prog 127 te127 := ⟨ti127_ok, fun g hg => by cases hg⟩
def te130 : TE := ⟨ti130, none⟩
theorem te130_ok : TE.ok Tryd.prog 130 te130 := ⟨ti130_ok, fun g hg => by cases hg⟩
def te131 : TE := ⟨ti131, none⟩
theorem te131_ok : TE.ok Tryd.prog 131 te131 := ⟨ti131_ok, fun g hg => by cases hg⟩
def te133 : TE := ⟨ti133, none⟩
theorem te133_ok : TE.ok Tryd.prog 133 te133 := ⟨ti133_ok, fun g hg => by cases hg⟩
def te134 : TE := ⟨ti134, none⟩
theorem te134_ok : TE.ok Tryd.prog 134 te134 := ⟨ti134_ok, fun g hg => by cases hg⟩
def te137 : TE := ⟨ti137, some (.pair (.str) (.pair (.str) (.pair (.str) (.pair (.str) (.pair (.str) (.pair (.str) (.pair (.str) (.pair (.str) (.str)))))))))⟩
theorem te137_ok : TE.ok Tryd.prog 137 te137 := ⟨ti137_ok, fun g hg => by cases hg; exact ⟨rfl, rfl, by decide⟩⟩
def te138 : TE := ⟨ti138, some (.pair (.str) (.str))⟩
theorem te138_ok : TE.ok Tryd.prog 138 te138 := ⟨ti138_ok, fun g hg => by cases hg; exact ⟨rfl, rfl, by decide⟩⟩
def te149 : TE := ⟨ti149, some (.pair (.int .i64) (.int .i64))⟩
theorem te149_ok : TE.ok Tryd.prog 149 te149 := ⟨ti149_ok, fun g hg => by cases hg; exact ⟨rfl, rfl, by decide⟩⟩
def te153 : TE := ⟨ti153, none⟩
theorem te153_ok : TE.ok Tryd.prog 153 te153 := ⟨ti153_ok, fun g hg => by cases hg⟩
def te155 : TE := ⟨ti155, none⟩
theorem te155_ok : TE.ok Tryd.prog 155 te155 := ⟨ti155_ok, fun g hg => by cases hg⟩
def te157 : TE := ⟨ti157, none⟩
theorem te157_ok : TE.ok Tryd.prog 157 te157 := ⟨ti157_ok, fun g hg => by cases hg⟩
def te160 : TE := ⟨ti160, none⟩
theorem te160_ok : TE.ok Tryd.prog 160 te160 := ⟨ti160_ok, fun g hg => by cases hg⟩
def te161 : TE := ⟨ti161, some (.pair (.int .u8) (.pair (.int .u8) (.pair (.int .u8) (.pair (.int .u8) (.pair (.int .u8) (.pair (.int .u8) (.pair (.int .u8) (.int .u8))))))))⟩
theorem te161_ok : TE.ok Tryd.prog 161 te161 := ⟨ti161_ok, fun g hg => by cases hg; exact ⟨rfl, rfl, by decide⟩⟩
def te167 : TE := ⟨ti167, some (.pair (.bool) (.pair (.bool) (.pair (.bool) (.bool))))⟩
theorem te167_ok : TE.ok Tryd.prog 167 te167 := ⟨ti167_ok, fun g hg => by cases hg; exact ⟨rfl, rfl, by decide⟩⟩
def te169 : TE := ⟨ti169, none⟩
theorem te169_ok : TE.ok Tryd.prog 169 te169 := ⟨ti169_ok, fun g hg => by cases hg⟩
def te172 : TE := ⟨ti172, none⟩
theorem te172_ok : TE.ok Tryd.prog 172 te172 := ⟨ti172_ok, fun g hg => by cases hg⟩
def te176 : TE := ⟨ti176, none⟩
theorem te176_ok : TE.ok Tryd.prog 176 te176 := ⟨ti176_ok, fun g hg => by cases hg⟩
def te177 : TE := ⟨ti177, some (.int .u64)⟩
theorem te177_ok : TE.ok Tryd.prog 177 te177 := ⟨ti177_ok, fun g hg => by cases hg; exact ⟨rfl, rfl, by decide⟩⟩
def te182 : TE := ⟨ti182, none⟩
theorem te182_ok : TE.ok Tryd.prog 182 te182 := ⟨ti182_ok, fun g hg => by cases hg⟩
def te186 : TE := ⟨ti186, none⟩
theorem te186_ok : TE.ok Tryd.prog 186 te186 := ⟨ti186_ok, fun g hg => by cases hg⟩
def te187 : TE := ⟨ti187, some (.int .u32)⟩
theorem te187_ok : TE.ok Tryd.prog 187 te187 := ⟨ti187_ok, fun g hg => by cases hg; exact ⟨rfl, rfl, by decide⟩⟩
def te188 : TE := ⟨ti188, none⟩
theorem te188_ok : TE.ok Tryd.prog 188 te188 := ⟨ti188_ok, fun g hg => by cases hg⟩
def te190 : TE := ⟨ti190, some (.int .u64)⟩
theorem te190_ok : TE.ok Tryd.prog 190 te190 := ⟨ti190_ok, fun g hg => by cases hg; exact ⟨rfl, rfl, by decide⟩⟩
def te193 : TE := ⟨ti193, none⟩
theorem te193_ok : TE.ok Tryd.prog 193 te193 := ⟨ti193_ok, fun g hg => by cases hg⟩
def te194 : TE := ⟨ti194, none⟩
theorem te194_ok : TE.ok Tryd.prog 194 te194 := ⟨ti194_ok, fun g hg => by cases hg⟩
def te197 : TE := ⟨ti197, none⟩
theorem te197_ok : TE.ok Tryd.prog 197 te197 := ⟨ti197_ok, fun g hg => by cases hg⟩
def te201 : TE := ⟨ti201, some (.int .u8)⟩
theorem te201_ok : TE.ok Tryd.prog 201 te201 := ⟨ti201_ok, fun g hg => by cases hg; exact ⟨rfl, rfl, by decide⟩⟩
def te202 : TE := ⟨ti202, some (.int .u8)⟩
theorem te202_ok : TE.ok Tryd.prog 202 te202 := ⟨ti202_ok, fun g hg => by cases hg; exact ⟨rfl, rfl, by decide⟩⟩
def te203 : TE := ⟨ti203, none⟩
theorem te203_ok : TE.ok Tryd.prog 203 te203 := ⟨ti203_ok, fun g hg => by cases hg⟩
def te204 : TE := ⟨ti204, some (.int .i32)⟩
theorem te204_ok : TE.ok Tryd.prog 204 te204 := ⟨ti204_ok, fun g hg => by cases hg; exact ⟨rfl, rfl, by decide⟩⟩
def te205 : TE := ⟨ti205, some (.int .i32)⟩
theorem te205_ok : TE.ok Tryd.prog 205 te205 := ⟨ti205_ok, fun g hg => by cases hg; exact ⟨rfl, rfl, by decide⟩⟩
def te207 : TE := ⟨ti207, none⟩
theorem te207_ok : TE.ok Tryd.prog 207 te207 := ⟨ti207_ok, fun g hg => by cases hg⟩
def tt : TT := (.node (.node (.node (.node (.node (.node (.node .leaf 1 te1 .leaf) 2 te2 (.node .leaf 3 te3 .leaf)) 4 te4 (.node (.node .leaf 5 te5 .leaf) 6 te6 (.node .leaf 9 te9 .leaf))) 10 te10 (.node (.node (.node .leaf 11 te11 .leaf) 12 te12 (.node .leaf 15 te15 .leaf)) 16 te16 (.node (.node .leaf 17 te17 .leaf) 20 te20 (.node .leaf 21 te21 .leaf)))) 22 te22 (.node (.node (.node (.node .leaf 23 te23 .leaf) 24 te24 (.node .leaf 25 te25 .leaf)) 26 te26 (.node (.node .leaf 27 te27 .leaf) 28 te28 (.node .leaf 29 te29 .leaf))) 30 te30 (.node (.node (.node .leaf 31 te31 .leaf) 32 te32 (.node .leaf 33 te33 .leaf)) 34 te34 (.node (.node .leaf 35 te35 .leaf) 36 te36 .leaf)))) 37 te37 (.node (.node (.node (.node (.node .leaf 38 te38 .leaf) 39 te39 (.node .leaf 40 te40 .leaf)) 41 te41 (.node (.node .leaf 42 te42 .leaf) 43 te43 (.node .leaf 44 te44 .leaf))) 45 te45 (.node (.node (.node .leaf 46 te46 .leaf) 47 te47 (.node .leaf 48 te48 .leaf)) 49 te49 (.node (.node .leaf 52 te52 .leaf) 57 te57 .leaf))) 58 te58 (.node (.node (.node (.node .leaf 59 te59 .leaf) 60 te60 (.node .leaf 61 te61 .leaf)) 63 te63 (.node (.node .leaf 64 te64 .leaf) 65 te65 (.node .leaf 66 te66 .leaf))) 68 te68 (.node (.node (.node .leaf 70 te70 .leaf) 71 te71 (.node .leaf 72 te72 .leaf)) 74 te74 (.node (.node .leaf 75 te75 .leaf) 76 te76 .leaf))))) 79 te79 (.node (.node (.node (.node (.node (.node .leaf 81 te81 .leaf) 82 te82 (.node .leaf 83 te83 .leaf)) 84 te84 (.node (.node .leaf 85 te85 .leaf) 86 te86 (.node .leaf 87 te87 .leaf))) 88 te88 (.node (.node (.node .leaf 90 te90 .leaf) 93 te93 (.node .leaf 94 te94 .leaf)) 95 te95 (.node (.node .leaf 96 te96 .leaf) 97 te97 (.node .leaf 98 te98 .leaf)))) 100 te100 (.node (.node (.node (.node .leaf 101 te101 .leaf) 102 te102 (.node .leaf 103 te103 .leaf)) 105 te105 (.node (.node .leaf 106 te106 .leaf) 107 te107 (.node .leaf 108 te108 .leaf))) 109 te109 (.node (.node (.node .leaf 110 te110 .leaf) 111 te111 (.node .leaf 120 te120 .leaf)) 125 te125 (.node (.node .leaf 127 te127 .leaf) 130 te130 .leaf)))) 131 te131 (.node (.node (.node (.node (.node .leaf 133 te133 .leaf) 134 te134 (.node .leaf 137 te137 .leaf)) 138 te138 (.node (.node .leaf 149 te149 .leaf) 153 te153 (.node .leaf 155 te155 .leaf))) 157 te157 (.node (.node (.node .leaf 160 te160 .leaf) 161 te161 (.node .leaf 167 te167 .leaf)) 169 te169 (.node (.node .leaf 172 te172 .leaf) 176 te176 .leaf))) 177 te177 (.node (.node (.node (.node .leaf 182 te182 .leaf) 186 te186 (.node .leaf 187 te187 .leaf)) 188 te188 (.node (.node .leaf 190 te190 .leaf) 193 te193 (.node .leaf 194 te194 .leaf))) 197 te197 (.node (.node (.node .leaf 201 te201 .leaf) 202 te202 (.node .leaf 203 te203 .leaf)) 204 te204 (.node (.node .leaf 205 te205 .leaf) 207 te207 .leaf))))))
theorem tt_ok : tt.ok Tryd.prog := ⟨⟨⟨⟨⟨⟨⟨trivial, te1_ok, trivial⟩, te2_ok, ⟨trivial, te3_ok, trivial⟩⟩, te4_ok, ⟨⟨trivial, te5_ok, trivial⟩, te6_ok, ⟨trivial, te9_ok, trivial⟩⟩⟩, te10_ok, ⟨⟨⟨trivial, te11_ok, trivial⟩, te12_ok, ⟨trivial, te15_ok, trivial⟩⟩, te16_ok, ⟨⟨trivial, te17_ok, trivial⟩, te20_ok, ⟨trivial, te21_ok, trivial⟩⟩⟩⟩, te22_ok, ⟨⟨⟨⟨trivial, te23_ok, trivial⟩, te24_ok, ⟨trivial, te25_ok, trivial⟩⟩, te26_ok, ⟨⟨trivial, te27_ok, trivial⟩, te28_ok, ⟨trivial, te29_ok, trivial⟩⟩⟩, te30_ok, ⟨⟨⟨trivial, te31_ok, trivial⟩, te32_ok, ⟨trivial, te33_ok, trivial⟩⟩, te34_ok, ⟨⟨trivial, te35_ok, trivial⟩, te36_ok, trivial⟩⟩⟩⟩, te37_ok, ⟨⟨⟨⟨⟨trivial, te38_ok, trivial⟩, te39_ok, ⟨trivial, te40_ok, trivial⟩⟩, te41_ok, ⟨⟨trivial, te42_ok, trivial⟩, te43_ok, ⟨trivial, te44_ok, trivial⟩⟩⟩, te45_ok, ⟨⟨⟨trivial, te46_ok, trivial⟩, te47_ok, ⟨trivial, te48_ok, trivial⟩⟩, te49_ok, ⟨⟨trivial, te52_ok, trivial⟩, te57_ok, trivial⟩⟩⟩, te58_ok, ⟨⟨⟨⟨trivial, te59_ok, trivial⟩, te60_ok, ⟨trivial, te61_ok, trivial⟩⟩, te63_ok, ⟨⟨trivial, te64_ok, trivial⟩, te65_ok, ⟨trivial, te66_ok, trivial⟩⟩⟩, te68_ok, ⟨⟨⟨trivial, te70_ok, trivial⟩, te71_ok, ⟨trivial, te72_ok, trivial⟩⟩, te74_ok, ⟨⟨trivial, te75_ok, trivial⟩, te76_ok, trivial⟩⟩⟩⟩⟩, te79_ok, ⟨⟨⟨⟨⟨⟨trivial, te81_ok, trivial⟩, te82_ok, ⟨trivial, te83_ok, trivial⟩⟩, te84_ok, ⟨⟨trivial, te85_ok, trivial⟩, te86_ok, ⟨trivial, te87_ok, trivial⟩⟩⟩, te88_ok, ⟨⟨⟨trivial, te90_ok, trivial⟩, te93_ok, ⟨trivial, te94_ok, trivial⟩⟩, te95_ok, ⟨⟨trivial, te96_ok, trivial⟩, te97_ok, ⟨trivial, te98_ok, trivial⟩⟩⟩⟩, te100_ok, ⟨⟨⟨⟨trivial, te101_ok, trivial⟩, te102_ok, ⟨trivial, te103_ok, trivial⟩⟩, te105_ok, ⟨⟨trivial, te106_ok, trivial⟩, te107_ok, ⟨trivial, te108_ok, trivial⟩⟩⟩, te109_ok, ⟨⟨⟨trivial, te110_ok, trivial⟩, te111_ok, ⟨trivial, te120_ok, trivial⟩⟩, te125_ok, ⟨⟨trivial, te127_ok, trivial⟩, te130_ok, trivial⟩⟩⟩⟩, te131_ok, ⟨⟨⟨⟨⟨trivial, te133_ok, trivial⟩, te134_ok, ⟨trivial, te137_ok, trivial⟩⟩, te138_ok, ⟨⟨trivial, te149_ok, trivial⟩, te153_ok, ⟨trivial, te155_ok, trivial⟩⟩⟩, te157_ok, ⟨⟨⟨trivial, te160_ok, trivial⟩, te161_ok, ⟨trivial, te167_ok, trivial⟩⟩, te169_ok, ⟨⟨trivial, te172_ok, trivial⟩, te176_ok, trivial⟩⟩⟩, te177_ok, ⟨⟨⟨⟨trivial, te182_ok, trivial⟩, te186_ok, ⟨trivial, te187_ok, trivial⟩⟩, te188_ok, ⟨⟨trivial, te190_ok, trivial⟩, te193_ok, ⟨trivial, te194_ok, trivial⟩⟩⟩, te197_ok, ⟨⟨⟨trivial, te201_ok, trivial⟩, te202_ok, ⟨trivial, te203_ok, trivial⟩⟩, te204_ok, ⟨⟨trivial, te205_ok, trivial⟩, te207_ok, trivial⟩⟩⟩⟩⟩⟩
end Go.Proofs.YtihcolehefloeaaDoor

/- shifts.Check. -/
namespace Go.Proofs.YtihcolehefloeaaDoor
open Go.RowKit
/-- The words of the kinds of operations, and of the directions. -/
def wordsL : List (List UInt8) := [[], [105, 110], [111, 117, 116], [114, 97, 99, 107], [107, 110, 105, 116], [116, 117, 99, 107], [109, 105, 115, 115], [120, 102, 101, 114], [100, 114, 111, 112]]
def dirsL : List (List UInt8) := [[108, 101, 102, 116], [114, 105, 103, 104, 116]]
/-- The symbols of the kinds of stitches. -/
def symbolsL : List Int := [107, 112, 111, 47, 118, 116, 115, 99]
def glT : Nat → Option GL
  | 0 => some ⟨.str, wordsL⟩
  | 1 => some ⟨.str, dirsL⟩
  | 2 => some ⟨.int .u8, symbolsL⟩
  | 3 => some ⟨.int .u64, Lib.pow10Tab⟩
  | _ => none
noncomputable def cx : Cx := ⟨Tryd.prog, tt, glT⟩
def okAt (l : List Int) (i : Int) : Bool := decide (1 ≤ l.getD i.toNat 0) && decide (l.getD i.toNat 0 ≤ 40) && (decide (i ≤ 0) || decide (l.getD (i - 1).toNat 0 < l.getD i.toNat 0))
def chkAll (l : List Int) : Bool := (List.range l.length).all fun i => okAt l i
theorem check_ok (l : List Int) (cap : Option Nat) (hl : l.length ≤ 1000000000) : AC cx 26 [.c (.lst (.int .i64) l cap)] [] (fun sv h => sv = .c (.val (.int .i64 (if chkAll l then 0 else 1))) ∧ h = []) := by
  refine ac_body tt_ok Tryd.func26 rfl Tryd.ntmps26 rfl rfl (res := [.tmp 2]) rfl ?_
  refine ax_seq ?_
  refine ax_region ?_
  refine al_run tt_ok rfl rfl ?_
  refine ax_seq ?_
  refine ax_seq ?_
  refine ax_region ?_
  refine al_run tt_ok rfl rfl ?_
  refine ax_block ?_
  refine ax_weak (st' := ⟨[(7, _), (0, _), (5, _), (6, _)], []⟩) (Wk.sub (SubL.cons rfl (SubL.cons rfl (SubL.cons rfl (SubL.cons rfl SubL.nil)))) SubH.nil) ?_
  refine ax_loopL (fun x : Int => [(7, .c (.val (.int .i64 x)))]) (fun x : Int => []) (fun x : Int => 0 ≤ x ∧ x ≤ l.length ∧ ∀ i : Nat, i < x → okAt l i = true) (fun x : Int => (l.length - x).toNat) (0) (⟨by omega, by omega, fun i hi => by omega⟩) ?_
  rintro x ⟨hx0, hx1, hx2⟩
  refine ax_seq ?_
  refine ax_region ?_
  refine al_run tt_ok rfl rfl ?_
  refine ax_seq ?_
  refine ax_cond rfl rfl (fun hc2 => ?_) (fun hc2 => ?_)
  ·
    refine ax_skip ?_
    refine ax_seq ?_
    refine ax_block ?_
    refine ax_seq ?_
    have hlt : x < l.length := by simpa using hc2
    refine ax_region ?_
    refine al_run tt_ok rfl (by simp only [inB, inI64, fitB, GTy.zero, Bool.and_eq_true, Bool.or_eq_true, Bool.not_eq_true', Bool.and_true, Bool.true_and, Bool.or_true, Bool.true_or, decide_eq_true_eq, decide_eq_false_iff_not, true_and, and_true]; omega) ?_
    refine ax_seq ?_
    refine ax_region ?_
    refine al_run tt_ok rfl (by simp [inB, inI64, fitB, GTy.zero]; omega) ?_
    refine ax_cond rfl rfl (fun hc4 => ?_) (fun hc4 => ?_)
    ·
      refine ax_seq ?_
      refine ax_region ?_
      refine al_run tt_ok rfl rfl ?_
      refine ax_ret ?_
      refine ⟨_, Wk.sub (st' := ⟨[(2, _)], []⟩) (SubL.cons rfl SubL.nil) SubH.nil, _, _, rfl, rfl, ?_⟩
      have : chkAll l = false := by
        rw [chkAll, List.all_eq_false]
        refine ⟨x.toNat, by simp; omega, ?_⟩
        rw [okAt, Int.toNat_of_nonneg hx0]
        simp [GTy.zero] at hc4 ⊢
        omega
      rw [this]
      exact ⟨rfl, rfl⟩
    ·
      refine ax_skip ?_
      refine ax_region ?_
      refine al_run tt_ok rfl (by simp only [inB, inI64, fitB, GTy.zero, Bool.and_eq_true, Bool.or_eq_true, Bool.not_eq_true', Bool.and_true, Bool.true_and, Bool.or_true, Bool.true_or, decide_eq_true_eq, decide_eq_false_iff_not, true_and, and_true]; omega) ?_
      have hnext : ∀ i : Nat, (i : Int) < x + 1 → okAt l i = true := by
        intro i hi
        by_cases hix : (i : Int) < x
        · exact hx2 i hix
        · have : (i : Int) = x := by omega
          rw [okAt, this]
          simp [GTy.zero] at hc4 ⊢
          omega
      refine ⟨x + 1, ⟨by omega, by omega, fun i hi => hnext i hi⟩, (by dsimp only; omega), Wk.sub (by repeat (first | exact SubL.nil | refine SubL.cons rfl ?_)) SubH.nil⟩
  ·
    refine ax_exit ?_
    refine ax_seq ?_
    refine ax_region ?_
    refine al_run tt_ok rfl rfl ?_
    refine ax_ret ?_
    refine ⟨_, Wk.sub (st' := ⟨[(2, _)], []⟩) (SubL.cons rfl SubL.nil) SubH.nil, _, _, rfl, rfl, ?_⟩
    have : chkAll l = true := by
      rw [chkAll, List.all_eq_true]
      intro i hi
      have h5 : ¬ x < l.length := by simpa using hc2
      exact hx2 i (by simp at hi; omega)
    rw [this]
    exact ⟨rfl, rfl⟩
end Go.Proofs.YtihcolehefloeaaDoor

/- From a row's conditions to what the walks ask: arguments, package-level variables; back to the row. -/
namespace Go.Proofs.YtihcolehefloeaaDoor
open Go.ChangeShapes Go.WideShapes Go.ChangeAt Go.WideElems Go.RowKit
section
variable {H : Type} {enc : TypeId × Value → H} {P : Program} {W : World}
/-- Data of a type can be told from their reading. -/
def DecOk (enc : TypeId × Value → H) (P : Program) (W : World) (t : TypeId) (g : GTy) (R : g.D → Prop) : Prop :=
  ∀ k cs x, DataW.trod enc P W 0 (fun _ => true) true k t cs = some x → ∃ y : g.D, R y ∧ FR (fun b => b < W.heap.size) W g y cs
theorem dec_int {t : TypeId} {k : IntKind} (ht : P.underlying t = some (.int k)) : DecOk enc P W t (.int k) (fun (y : Int) => k.min ≤ y ∧ y ≤ k.max) := fun n cs x h => by
  obtain ⟨z, rfl, _, hw⟩ := DataW.trod_int ht h
  exact ⟨z, by simpa [Lit.wf] using hw, rfl⟩
theorem flat_sub {g : GTy} {R : g.D → Prop} : ∀ l : List { p : g.D × List Value // R p.1 ∧ FR (fun b => b < W.heap.size) W g p.1 p.2 }, Flat (FR (fun b => b < W.heap.size) W g) (l.map (·.1.1)) (l.flatMap (·.1.2))
  | [] => rfl
  | x :: l => ⟨x.1.2, l.flatMap (·.1.2), rfl, x.2.2, flat_sub l⟩
theorem cell_lt {b o : Nat} {v : Value} (h : W.cell? ⟨b, o, none⟩ = some v) : b < W.heap.size := by
  by_cases hb : b < W.heap.size
  · exact hb
  · simp [World.cell?, Array.getElem?_eq_none (by omega : W.heap.size ≤ b)] at h
/-- An argument that is a slice. -/
theorem open_sl {g : GTy} {R : g.D → Prop} (h0 : 0 < g.size) {t e : TypeId} {r : Reach} {b0 : Nat} {v : Value} {d : DataW H} {ps : List MemPlace} (ht : P.underlying t = some (.slice e)) (hc : P.cellsOf e = g.size) (hdec : DecOk enc P W e g R) (hval : Value.okWide P W r b0 t v) (hd : DataW.Trod enc P W 0 (fun _ => true) true t v d ps) :
    ∃ l : List g.D, (∀ x ∈ l, R x) ∧ ∀ env, SaR env (fun b => b < W.heap.size) W (.c (.lst g l none)) v := by
  obtain ⟨A, len, cap, l, rfl, hl, h1, h2, hr⟩ := open_list (α := { p : g.D × List Value // R p.1 ∧ FR (fun b => b < W.heap.size) W g p.1 p.2 }) (f := fun p => p.1.2) (fun x => x.2.2.length) h0 ht hc (fun k cs x h => by
    obtain ⟨y, hy, hf⟩ := hdec k cs x h
    exact ⟨⟨(y, cs), hy, hf⟩, rfl⟩) hval hd
  refine ⟨l.map (·.1.1), fun x hx => ?_, fun env => ?_⟩
  · obtain ⟨p, _, rfl⟩ := List.mem_map.1 hx
    exact p.2.1
  · refine ⟨A, cap, l.flatMap (·.1.2), by rw [List.length_map, hl], by rw [List.length_map, hl]; exact h1, h2, (fun _ h => by cases h), flat_sub l, by rw [List.length_map, hl]; exact hr, fun b p hm e => ?_⟩
    rw [List.length_map] at hm
    obtain ⟨b', p', e', hcell⟩ := hr.2 (by omega)
    rw [e] at e'
    cases e'
    cases hx : (l.flatMap (·.1.2))[0]? with
    | some u => exact cell_lt (hcell 0 u hx)
    | none =>
      exfalso
      have h3 := hr.1
      rw [List.getElem?_eq_none_iff] at hx
      have h4 : 0 < len * g.size := Nat.mul_pos (by omega) h0
      omega
/-- A table of strings. -/
theorem cells_of_strs {base : Nat} {sp : Nat → Bool} {held : Bool} {fuel : Nat} {t e : TypeId} {n : Nat} {cs : List Value} {zs : List (List UInt8)} {p : List MemPlace}
    (ht : P.underlying t = some (.array n e)) (he : P.underlying e = some .string) (hce : P.cellsOf e = 1) (hct : P.cellsOf t = n)
    (h : DataW.trod enc P W base sp held fuel t cs = some (.agg (zs.map fun z => .lit (.string z)), p)) : cs = zs.map strV := by
  obtain ⟨xs, m, _, hx, hlen, hxl, hel⟩ := DataW.trod_array ht h
  have hxs : xs.map (·.1) = zs.map fun z => (DataW.lit (.string z) : DataW H) := by
    have := congrArg Prod.fst hx
    simpa using this.symm
  have hzl : zs.length = n := by
    have := congrArg List.length hxs
    simp at this
    omega
  rw [hce] at hel
  apply List.ext_getElem?
  intro i
  by_cases hi : i < n
  · have h1 := hel i hi
    rw [List.getElem?_eq_getElem (by omega : i < xs.length)] at h1
    obtain ⟨s, hs, hxv, _⟩ := DataW.trod_string he h1
    have h2 : cs[i]? = some (.string s) := by
      have := congrArg (·[0]?) hs
      simpa [List.getElem?_take, List.getElem?_drop] using this
    have h3 : (xs.map (·.1))[i]? = some (DataW.lit (.string s.data.toList) : DataW H) := by
      rw [List.getElem?_map, List.getElem?_eq_getElem (by omega), hxv]
      rfl
    rw [hxs] at h3
    simp only [List.getElem?_map, Option.map_eq_some_iff, DataW.lit.injEq, Lit.string.injEq] at h3
    obtain ⟨z', hz', e2⟩ := h3
    rw [h2, List.getElem?_map, hz', Option.map_some, e2]
    rfl
  · rw [List.getElem?_eq_none (by omega), List.getElem?_eq_none (by simp; omega)]
theorem flat_of_ints {B : Nat → Prop} {k : IntKind} : ∀ l : List Int, Flat (FR B W (.int k)) l (l.map fun z => Value.int k z)
  | [] => rfl
  | x :: l => ⟨[.int k x], _, rfl, rfl, flat_of_ints l⟩
theorem flat_of_strs {B : Nat → Prop} : ∀ l : List (List UInt8), Flat (FR B W .str) l (l.map strV)
  | [] => rfl
  | x :: l => ⟨[strV x], _, rfl, rfl, flat_of_strs l⟩
/-- A variable whose cells are known. -/
theorem gr_of {n : String} {i : Nat} {g : GTy} {l : List g.D} {cs : Array Value} (hg : P.globalNamed n = some i) (hv : W.var? P n = some cs) (hf : Flat (FR (fun b => b < W.heap.size) W g) l cs.toList) : GR (fun b => b < W.heap.size) W i ⟨g, l⟩ := by
  unfold World.var? at hv
  rw [hg, Option.bind_some] at hv
  split at hv
  · rename_i cs' e fr hh
    cases hv
    have hlt : i < W.heap.size := (Array.getElem?_eq_some_iff.1 hh).1
    refine ⟨⟨i, 0, cs.toList, rfl, hlt, hf, fun j u hu => ?_⟩, cs, e, fr, hh, ?_⟩
    · simp only [Nat.zero_add, World.cell?, hh]
      simpa using hu
    · have := FR.flat_length hf
      simpa using this
  · cases hv
theorem glob_id {n : String} {g i : Nat} (h : P.globalNamed n = some g) (hk : P.globalNamed n = some i) : g = i := Option.some.inj (h.symm.trans hk)
theorem type_id {a : Option TypeId} {t u : TypeId} (h : a = some t) (hk : a = some u) : t = u := Option.some.inj (h.symm.trans hk)
end
/-- What a law's contract gives. -/
theorem AC.law {X : Cx} {f : FuncId} {args : List SA} {vs : List Value} {W : World} (h : AC X f args [] (fun sv h => sv = .c (.val (.bool true)) ∧ h = [])) (hg : GlobOk X (fun b => b < W.heap.size) W) (ha : SasR (fun _ => .no) (fun b => b < W.heap.size) W args vs) : Ret X.P f vs.toArray W (fun v w' => v = .bool true ∧ Below W.heap.size W w') := by
  refine (h (fun b => b < W.heap.size) W (fun _ => .no) vs [] W hg ha rfl (SH.start W)).mono ?_
  rintro v w' ⟨env', B', w0', H', sv, h', ⟨rfl, rfl⟩, h1, h2, h3, h4, h5, h6, h7⟩
  have hr : ∀ k, k < W.heap.size → Rest W [] k := fun k hk => ⟨hk, fun c hc => by cases hc⟩
  exact ⟨h4, h6.below.os.trans h3.os, h6.below.tape.trans h3.tape, h6.below.output.trans h3.output, Nat.le_trans h3.size h6.below.size, fun k hk => (h6.below.block k (.inl (hr k hk))).trans (h3.block k (hr k hk))⟩
end Go.Proofs.YtihcolehefloeaaDoor

/- What the walks printed by tr.py need: models of functions in Option, and how a walk follows them. -/
namespace Go.Proofs.YtihcolehefloeaaDoor
open Go.RowKit
/-- A condition that must hold. -/
def gd {α : Type} (c : Bool) (k : Option α) : Option α := match c with
  | true => k
  | false => none
theorem gd_some {α : Type} {c : Bool} {k : Option α} {r : α} (h : gd c k = some r) : c = true ∧ k = some r := by
  cases c with
  | true => exact ⟨rfl, h⟩
  | false => cases h
theorem gd_t {α : Type} {c : Bool} {k : Option α} (h : c = true) : gd c k = k := by rw [h]; rfl
theorem bd {α β : Type} {x : Option α} {f : α → Option β} {r : β} (h : x.bind f = some r) : ∃ a, x = some a ∧ f a = some r := by
  cases x with
  | none => cases h
  | some a => exact ⟨a, rfl, h⟩
theorem cond_t {α : Type} {b : Bool} {x y z : α} (hb : b = true) (h : cond b x y = z) : x = z := by rw [hb] at h; exact h
theorem cond_f {α : Type} {b : Bool} {x y z : α} (hb : b = false) (h : cond b x y = z) : y = z := by rw [hb] at h; exact h
/-- What a loop gives: a state behind it, or a return. -/
abbrev sm {α β γ : Type} (x : α ⊕ β) (f : α → Option γ) (g : β → Option γ) : Option γ := match x with
  | .inl a => f a
  | .inr b => g b
def FUEL : Nat := 1000000000
def nocapH (id : Nat) : Hp → Hp
  | [] => []
  | (j, .row t g l c) :: r => match Nat.beq j id with
    | true => (j, .row t g l none) :: r
    | false => (j, .row t g l c) :: nocapH id r
  | b :: r => b :: nocapH id r
section
variable {X : Cx} {M : Bool} {n : Nat} {r : Option Nat} {c : Code} {st : ASt} {Q : Exit → ASt → Prop}
def cutQ (X : Cx) (n : Nat) {O : Type} (S : O → ASt) (P : O → Prop) (Q : Exit → ASt → Prop) : Exit → ASt → Prop
  | .normal, s => ∃ o, P o ∧ Wk X n s (S o)
  | e, s => Q e s
theorem ax_cutS {O : Type} (S : O → ASt) (P : O → Prop) (h1 : AX X M n r c st (cutQ X n S P Q)) (h2 : ∀ o, P o → Q .normal (S o)) : AX X M n r c st Q := fun R W Bi a w hA => wpIn_mono (h1 R W Bi a w hA) fun e a w ⟨s, hq, hA'⟩ => by
  cases e with
  | normal =>
    obtain ⟨o, hp, hw⟩ := hq
    exact ⟨S o, h2 o hp, hw _ _ _ _ _ _ hA'⟩
  | _ => exact ⟨s, hq, hA'⟩
/-- What is known of a slot may be told in other words. -/
theorem Wk.conv {s : Nat} {sv : SV} (sv' : SV) (hs : lk st.L s = some sv) (hV : ∀ env B w v, VR env B w sv v → VR env B w sv' v) : Wk X n st ⟨(s, sv') :: st.L, st.H⟩ := fun R W Bi M a w ⟨ks, env, B, w0, H, hM, h⟩ =>
  ⟨ks, env, B, w0, H, hM, h.size, h.defs, fun q u hu => by
    rw [lk_cons] at hu
    split at hu
    · rename_i e
      subst e
      cases hu
      obtain ⟨v, h1, h2⟩ := h.has _ _ hs
      exact ⟨v, h1, hV _ _ _ _ h2⟩
    · exact h.has q u hu, h.heap, h.sh, h.sub, h.new, h.pin, h.base, h.glob⟩
/-- A nil slice is an empty list. -/
theorem Wk.lst0 (s : Nat) (g : GTy) (hs : lk st.L s = some (.c (.val (.slice none 0 0)))) : Wk X n st ⟨(s, .c (.lst g [] (some 0))) :: st.L, st.H⟩ := Wk.conv _ hs fun env B w _ h => nil_lst (env := env) (B := B) (w := w) h
theorem HR.nocap {env : Nat → Loc} {B : Nat → Prop} {w : World} (id : Nat) : ∀ {l : Hp} {H : List Ck}, HR env B w l H → HR env B w (nocapH id l) H
  | [], _, h => h
  | (j, .row t g l c) :: r, _, ⟨k, H', e, h1, h2⟩ => by
    unfold nocapH
    split
    · obtain ⟨A, q, xs, h3, h4, h5, h6⟩ := h1
      exact ⟨k, H', e, ⟨A, q, xs, h3, h4, h5, fun _ h => by cases h⟩, h2⟩
    · exact ⟨k, H', e, h1, HR.nocap id h2⟩
  | (j, .cells _ _) :: r, _, ⟨k, H', e, h1, h2⟩ => ⟨k, H', e, h1, HR.nocap id h2⟩
  | (j, .sit _ _) :: r, _, ⟨k, H', e, h1, h2⟩ => ⟨k, H', e, h1, HR.nocap id h2⟩
  | (j, .mp _ _ _ _) :: r, _, ⟨k, H', e, h1, h2⟩ => ⟨k, H', e, h1, HR.nocap id h2⟩
  | (j, .it _ _ _ _) :: r, _, ⟨k, H', e, h1, h2⟩ => ⟨k, H', e, h1, HR.nocap id h2⟩
  | (j, .junk) :: r, _, ⟨k, H', e, h1, h2⟩ => ⟨k, H', e, h1, HR.nocap id h2⟩
  | (j, .hrow _ _ _ _ _ _) :: r, _, ⟨k, H', e, h1, h2⟩ => ⟨k, H', e, h1, HR.nocap id h2⟩
  | (j, .rjunk) :: r, _, ⟨k, H', e, h1, h2⟩ => ⟨k, H', e, h1, HR.nocap id h2⟩
  | (j, .lrow _ _ _) :: r, _, ⟨k, H', e, h1, h2⟩ => ⟨k, H', e, h1, HR.nocap id h2⟩
/-- What is known of a row's room may be forgotten. -/
theorem Wk.rowcap (id : Nat) {st' : ASt} (h : st' = ⟨st.L, nocapH id st.H⟩) : Wk X n st st' := fun R W Bi M a w ⟨ks, env, B, w0, H, hM, hA⟩ => by
  subst h
  exact ⟨ks, env, B, w0, H, hM, hA.size, hA.defs, hA.has, HR.nocap id hA.heap, hA.sh, hA.sub, hA.new, hA.pin, hA.base, hA.glob⟩
end
theorem AC.forgetV {X : Cx} {f : FuncId} {args : List SA} {h0 : Hp} {V : SV} (h : AC X f args h0 (fun sv _ => sv = V)) : AC X f args h0 (fun sv h => sv = V ∧ h = []) := by
  intro B w0 env vs H W hg ha hh hs
  refine (h B w0 env vs H W hg ha hh hs).mono ?_
  rintro v w' ⟨env', B', w0', H', s, h', hQ, h1, h2, h3, h4, h5, h6, h7⟩
  exact ⟨env', B', w0', [], s, [], ⟨hQ, rfl⟩, h1, h2, h3, h4, rfl, h6.weak (List.nil_sublist _), h7⟩
theorem ob : (∀ b, (b && true) = b) ∧ (∀ b, (true && b) = b) ∧ (∀ b, (b || true) = true) ∧ (∀ b, (true || b) = true) ∧ (!true) = false ∧ (!false) = true ∧ (∀ b, (b || false) = b) ∧ (∀ b, (false || b) = b) ∧ (∀ b, (b && b) = b) ∧ (∀ b : Bool, (!b || b) = true) ∧ (∀ b, (b || b) = b) := by decide
theorem ob2 : (∀ b, (b && true) = b) ∧ (∀ b, (true && b) = b) ∧ (∀ b, (b && false) = false) ∧ (∀ b, (false && b) = false) ∧ (!true) = false ∧ (!false) = true ∧ ((false = true) = False) ∧ ((true = false) = False) := by
  refine ⟨by decide, by decide, by decide, by decide, rfl, rfl, by simp, by simp⟩
theorem CsR.data {env : Nat → Loc} {B : Nat → Prop} {w : World} {g : GTy} {cs cs' : List SC} {x : g.D} {c : Bool} {vs : List Value} (h1 : CsR env B w cs vs) (hd : dec g cs = some (c, x, [])) (hc : c = true) (hg : gcells g x 0 g.size = some cs') : CsR env B w cs' vs := by
  obtain ⟨v1, v2, e2, hf, h2⟩ := dec_ok h1 hd hc
  have h4 : v2 = [] := h2
  subst h4
  rw [List.append_nil] at e2
  subst e2
  obtain ⟨us, ⟨hl, hp⟩, h3⟩ := FR.cells hf hg
  have hvl := FR.length hf
  have hus : us = vs := by
    apply List.ext_getElem?
    intro j
    cases hj : us[j]? with
    | some u =>
      have := hp j u hj
      rw [Nat.zero_add] at this
      exact this.symm
    | none =>
      rw [List.getElem?_eq_none_iff] at hj
      exact (List.getElem?_eq_none_iff.2 (by omega)).symm
  subst hus
  exact h3
theorem Wk.dataB {X : Cx} {n : Nat} {st : ASt} (id : Nat) (g : GTy) {t : TypeId} {cs cs' : List SC} {x : g.D} {c : Bool} (hs : lk st.H id = some (.cells t cs)) (hd : dec g cs = some (c, x, [])) (hc : c = true) (hg : gcells g x 0 g.size = some cs') : Wk X n st ⟨st.L, putH id (.cells t cs') st.H⟩ := fun R W Bi M a w ⟨ks, env, B, w0, H, hM, h⟩ => by
  obtain ⟨ck, K, ⟨b, vs, he, e, hcs⟩, ⟨Y, Z, h1, h2⟩, h3⟩ := h.setBlk (b' := .cells t cs') hs
  obtain ⟨H', h4⟩ := h3 ck a w ⟨b, vs, he, e, hcs.data hd hc hg⟩ (by rw [h2]; dsimp only; rw [← h1]; exact h.sh) h.stt
  exact ⟨ks, env, B, w0, H', hM, h4⟩
end Go.Proofs.YtihcolehefloeaaDoor

/- What the rows of laws need beyond L1. -/
namespace Go.Proofs.YtihcolehefloeaaDoor
open Go.ChangeShapes Go.WideShapes Go.ChangeAt Go.WideElems Go.RowKit
theorem Tryd.own : ownKnob Tryd.prog.godebug = none := by kernel_rfl
theorem Tryd.laidOut : laidOutB Tryd.prog = true := by kernel_rfl
theorem wf_range {k : IntKind} {n : Int} (h : (Lit.int k n).wf = true) : k.min ≤ n ∧ n ≤ k.max := by simpa [Lit.wf] using h
end Go.Proofs.YtihcolehefloeaaDoor

/- Maps: making, looking up, setting. -/
namespace Go.Proofs.YtihcolehefloeaaDoor
open Go.RowKit
def GTy.beq : (g : GTy) → g.D → g.D → Bool
  | .int _ => fun (x : Int) (y : Int) => x == y
  | .bool => fun (x : Bool) (y : Bool) => x == y
  | .str => fun (x : List UInt8) (y : List UInt8) => x == y
  | .pair g h => fun x y => g.beq x.1 y.1 && h.beq x.2 y.2
  | _ => fun _ _ => false
def mget (gk gv : GTy) : List (gk.D × gv.D) → gk.D → Option gv.D
  | [], _ => none
  | x :: l, k => match gk.beq x.1 k with
    | true => some x.2
    | false => mget gk gv l k
def mset (gk gv : GTy) : List (gk.D × gv.D) → gk.D → gv.D → List (gk.D × gv.D)
  | [], k, v => [(k, v)]
  | x :: l, k, v => match gk.beq x.1 k with
    | true => (x.1, v) :: l
    | false => x :: mset gk gv l k v
/-- Data as a symbolic value. -/
def vSA : (g : GTy) → g.D → Option SA
  | .pair a b, x => (gcells (.pair a b) x 0 (a.size + b.size)).map .agg
  | g, x => (gcell g x 0).map .c
section
variable {B : Nat → Prop} {w : World} {k : IntKind} {gv : GTy}
theorem MR.findInt {z : Int} : ∀ {l : List (Int × gv.D)} {es : List MapEntry} (i : Nat), MR B w (.int k) gv l es →
    (mget (.int k) gv l z = none ∧ Instr.findNow (.int k) (.int k z) es i = some none) ∨ ∃ x j v, mget (.int k) gv l z = some x ∧ Instr.findNow (.int k) (.int k z) es i = some (some (i + j, v)) ∧ VD B w gv x v ∧ j < es.length
  | [], _, i, h => by rw [show _ = [] from h]; exact .inl ⟨rfl, rfl⟩
  | x :: l, _, i, ⟨e, r, he, h1, h2, h3⟩ => by
    subst he
    have hk : e.key = .int k x.1 := by
      have := (show FR B w (.int k) x.1 [e.key] from h1)
      have h4 : [e.key] = [Value.int k x.1] := this
      exact (List.cons.inj h4).1
    unfold Instr.findNow mget
    rw [hk]
    simp only [Instr.sameNow, if_true]
    by_cases hz : x.1 = z
    · have e1 : (GTy.int k).beq x.1 z = true := by simp [GTy.beq, hz]
      have e2 : (z == x.1) = true := by simp [hz]
      rw [e1, e2]
      exact .inr ⟨x.2, 0, e.val, rfl, rfl, h2, by simp⟩
    · have e1 : (GTy.int k).beq x.1 z = false := by simp [GTy.beq, hz]
      have e2 : (z == x.1) = false := by simp [Ne.symm hz]
      rw [e1, e2]
      rcases MR.findInt (i + 1) h3 with ⟨h4, h5⟩ | ⟨y, j, v, h4, h5, h6, h7⟩
      · exact .inl ⟨h4, h5⟩
      · exact .inr ⟨y, j + 1, v, h4, by rw [h5, Nat.add_assoc, Nat.add_comm 1 j], h6, by simpa using h7⟩
theorem modify_map {es : List MapEntry} {f : MapEntry → MapEntry} (hf : ∀ e, (f e).born = e.born) : ∀ (j : Nat), (es.modify j f).map (·.born) = es.map (·.born) := by
  induction es with
  | nil => intro j; cases j <;> rfl
  | cons e es ih =>
    intro j
    cases j with
    | zero => simp [hf]
    | succ j => simp only [List.modify_succ_cons, List.map_cons, ih j]
theorem MR.setInt {z : Int} {xv : gv.D} {vv : Value} (hv : VD B w gv xv vv) : ∀ {l : List (Int × gv.D)} {es : List MapEntry} (i : Nat), MR B w (.int k) gv l es →
    (Instr.findNow (.int k) (.int k z) es i = some none ∧ mset (.int k) gv l z xv = l ++ [(z, xv)]) ∨
    ∃ j v e, Instr.findNow (.int k) (.int k z) es i = some (some (i + j, v)) ∧ es[j]? = some e ∧ e.key = .int k z ∧ MR B w (.int k) gv (mset (.int k) gv l z xv) (es.modify j fun e => { e with key := .int k z, val := vv })
  | [], _, i, h => by rw [show _ = [] from h]; exact .inl ⟨rfl, rfl⟩
  | x :: l, _, i, ⟨e, r, he, h1, h2, h3⟩ => by
    subst he
    have hk : e.key = .int k x.1 := by
      have h4 : [e.key] = [Value.int k x.1] := h1
      exact (List.cons.inj h4).1
    unfold Instr.findNow mset
    rw [hk]
    simp only [Instr.sameNow, if_true]
    by_cases hz : x.1 = z
    · have e1 : (GTy.int k).beq x.1 z = true := by simp [GTy.beq, hz]
      have e2 : (z == x.1) = true := by simp [hz]
      rw [e1, e2]
      refine .inr ⟨0, e.val, e, rfl, rfl, by rw [hk, hz], { e with key := .int k z, val := vv }, r, rfl, ?_, hv, h3⟩
      show [Value.int k z] = [Value.int k x.1]
      rw [hz]
    · have e1 : (GTy.int k).beq x.1 z = false := by simp [GTy.beq, hz]
      have e2 : (z == x.1) = false := by simp [Ne.symm hz]
      rw [e1, e2]
      rcases MR.setInt hv (i + 1) h3 with ⟨h4, h5⟩ | ⟨j, v, e', h4, h5, h6, h7⟩
      · exact .inl ⟨h4, by show x :: mset (.int k) gv l z xv = _; rw [h5]; rfl⟩
      · exact .inr ⟨j + 1, v, e', by rw [h4, Nat.add_assoc, Nat.add_comm 1 j], by simpa using h5, h6, e, _, rfl, h1, h2, h7⟩
theorem MR.snoc {gk gv : GTy} {x : gk.D × gv.D} {e : MapEntry} (h1 : VD B w gk x.1 e.key) (h2 : VD B w gv x.2 e.val) : ∀ {l : List (gk.D × gv.D)} {es : List MapEntry}, MR B w gk gv l es → MR B w gk gv (l ++ [x]) (es ++ [e])
  | [], _, h => by rw [show _ = [] from h]; exact ⟨e, [], rfl, h1, h2, rfl⟩
  | _ :: _, _, ⟨e', r, he, h3, h4, h5⟩ => by subst he; exact ⟨e', _, rfl, h3, h4, MR.snoc h1 h2 h5⟩
def sShape : GTy → SA → Bool
  | .pair _ _, .agg _ => true
  | .pair _ _, .c _ => false
  | _, .c _ => true
  | _, .agg _ => false
  | _, .arr _ _ => false
theorem VD.ofSA {env : Nat → Loc} {g : GTy} {sa : SA} {c : Bool} {x : g.D} {v : Value} (hd : dec g sa.cells = some (c, x, [])) (hc : c = true) (hs : sShape g sa = true) (h : SaR env B w sa v) : VD B w g x v := by
  cases sa with
  | c sc =>
    obtain ⟨v1, v2, e, h1, h2⟩ := dec_ok (cs := [sc]) (vs := [v]) ⟨v, [], rfl, h, rfl⟩ hd hc
    have e2 : v2 = [] := h2
    rw [e2, List.append_nil] at e
    rw [← e] at h1
    cases g with
    | pair a b => cases hs
    | _ => exact h1
  | arr g2 l =>
    cases g with
    | pair a b => cases hs
    | _ => cases hs
  | agg cs =>
    obtain ⟨vs, e, h3⟩ := h
    obtain ⟨v1, v2, e1, h1, h2⟩ := dec_ok h3 hd hc
    have e2 : v2 = [] := h2
    rw [e2, List.append_nil] at e1
    cases g with
    | pair a b => exact ⟨vs, e, by rw [e1]; exact h1⟩
    | _ => cases hs
theorem VD.sa {env : Nat → Loc} {g : GTy} {x : g.D} {v : Value} {sa : SA} (h : VD B w g x v) (hs : vSA g x = some sa) : SaR env B w sa v := by
  have one : ∀ {g : GTy} {x : g.D} {v : Value} {sa : SA}, FR B w g x [v] → (gcell g x 0).map SA.c = some sa → SaR env B w sa v := by
    intro g x v sa h hs
    obtain ⟨c, hc, rfl⟩ := Option.map_eq_some_iff.1 hs
    obtain ⟨u, h1, h2⟩ := FR.cell (env := env) h hc
    simp only [List.getElem?_cons_zero, Option.some.injEq] at h1
    rw [h1]
    exact h2
  cases g with
  | pair a b =>
    obtain ⟨vs, e, h1⟩ := h
    obtain ⟨l, hl, rfl⟩ := Option.map_eq_some_iff.1 (show (gcells (.pair a b) x 0 (a.size + b.size)).map SA.agg = some sa from hs)
    obtain ⟨us, ⟨h2, h3⟩, h4⟩ := FR.cells (env := env) h1 hl
    have hlen : vs.length = a.size + b.size := FR.length h1
    have : us = vs := by
      apply List.ext_getElem?
      intro i
      by_cases hi : i < us.length
      · rw [List.getElem?_eq_getElem hi]
        have := h3 i us[i] (List.getElem?_eq_getElem hi)
        rw [Nat.zero_add] at this
        exact this.symm
      · rw [List.getElem?_eq_none (by omega), List.getElem?_eq_none (by omega)]
    subst this
    exact ⟨us, e, h4⟩
  | _ => exact one h hs
end
section
variable {X : Cx} {M : Bool} {n : Nat} {r : Option Nat} {st : ASt} {Q : Exit → ASt → Prop} {ops rest : List Oper} {o : Oper} {d : Nat}
theorem al_makeMap (gk gv : GTy) {t : TypeId} (hop : o.op = .makeMap t none) (ho : o.guard = none ∧ o.dst = some d) (hd : Nat.blt d n = true)
    (hnext : AL X M n r ops rest ⟨(d, .c (.mref d)) :: subL d .dead st.L, (d, .mp gk gv [] none) :: delH d .dead st.H⟩ Q) : AL X M n r ops (o :: rest) st Q := by
  rintro R W Bi a w ⟨ks, env, B, w0, H, hM, hA⟩
  refine xl_cons (x_value hA.stt ho.1 ho.2 (lt_of_blt hd) (v := .map (some w.heap.size)) (w' := w.alloc (.map #[] 0)) (by simp [execOp, hop, Instr.makeMap, newObj, Sem.run]) fun a' hS => ?_)
  obtain ⟨H', _, h3⟩ := hA.newBlk (d := d) hd (l := .blk w.heap.size) (blk := .mp gk gv [] none) (sv := .c (.mref d)) (hA.sh.alloc (.map #[] 0)) ⟨_, [], 0, upd_self, rfl, rfl, ⟨List.Pairwise.nil, fun _ h => by cases h⟩, fun _ h => by cases h⟩ ⟨_, upd_self, rfl⟩ hS
  exact hnext R W Bi a' _ ⟨ks, _, B, w0, H', hM, h3⟩
end
end Go.Proofs.YtihcolehefloeaaDoor

/- Ranges over maps. -/
namespace Go.Proofs.YtihcolehefloeaaDoor
open Go.RowKit
section
variable {X : Cx} {M : Bool} {n : Nat} {r : Option Nat} {st : ASt} {Q : Exit → ASt → Prop} {ops rest : List Oper} {o : Oper} {d : Nat}
end
end Go.Proofs.YtihcolehefloeaaDoor

/- What ranges over maps compute: the same in all orders. -/
namespace Go.Proofs.YtihcolehefloeaaDoor
open Go.RowKit
section
variable {α β : Type}
end
end Go.Proofs.YtihcolehefloeaaDoor

/- Strings by index. -/
namespace Go.Proofs.YtihcolehefloeaaDoor
open Go.RowKit
section
variable {X : Cx} {M : Bool} {n : Nat} {r : Option Nat} {st : ASt} {Q : Exit → ASt → Prop} {ops rest : List Oper} {o : Oper} {d : Nat}
theorem al_one (hX : X.tt.ok X.P) {c : Bool} {st' : ASt} (hs : astep X n (dstsOf ops) st o = .ok c st') (hc : c = true) (h : AL X M n r ops rest st' Q) : AL X M n r ops (o :: rest) st Q := by
  rintro R W Bi a w ⟨ks, env, B, w0, H, hM, hA⟩
  exact xl_cons (astep_ok hX hs hc hA fun a' w' env' H' _ hA' => h _ _ _ _ _ ⟨ks, env', B, w0, H', hM, hA'⟩)
end
end Go.Proofs.YtihcolehefloeaaDoor

/- Arrays of the call's own are rows. -/
namespace Go.Proofs.YtihcolehefloeaaDoor
open Go.RowKit
/-- Cells that are data, one after another. -/
def decs (g : GTy) : Nat → List SC → Option (Bool × List g.D × List SC)
  | 0, r => some (true, [], r)
  | m + 1, r => match dec g r with
    | some (c1, x, r1) => match decs g m r1 with
      | some (c2, l, r2) => some (c1 && c2, x :: l, r2)
      | none => none
    | none => none
section
variable {env : Nat → Loc} {B : Nat → Prop} {w : World}
theorem decs_ok {g : GTy} : ∀ {m : Nat} {cs : List SC} {c : Bool} {l : List g.D} {r : List SC} {vs : List Value}, CsR env B w cs vs → decs g m cs = some (c, l, r) → c = true → l.length = m ∧ ∃ v1 v2, vs = v1 ++ v2 ∧ Flat (FR B w g) l v1 ∧ CsR env B w r v2
  | 0, cs, c, l, r, vs, h, hd, _ => by
    cases hd
    exact ⟨rfl, [], vs, rfl, rfl, h⟩
  | m + 1, cs, c, l, r, vs, h, hd, hc => by
    simp only [decs] at hd
    split at hd
    · rename_i c1 x r1 h1
      split at hd
      · rename_i c2 l2 r2 h2
        cases hd
        simp only [Bool.and_eq_true] at hc
        obtain ⟨v1, v2, rfl, h3, h4⟩ := dec_ok h h1 hc.1
        obtain ⟨hl, v3, v4, rfl, h5, h6⟩ := decs_ok h4 h2 hc.2
        exact ⟨by rw [List.length_cons, hl], v1 ++ v3, v4, by rw [List.append_assoc], ⟨v1, v3, rfl, h3, h5⟩, h6⟩
      · cases hd
    · cases hd
end
section
variable {X : Cx} {R : Nat → Prop} {W : World} {Bi : Bk} {n : Nat} {ks : List Nat} {env : Nat → Loc} {B : Nat → Prop} {w0 : World} {H : List Ck} {st st' : ASt} {a : Act} {w : World}
/-- The array in the block s: a row with m elements. -/
theorem Wk.arr (s : Nat) (g : GTy) (m : Nat) (l : List g.D) {t : TypeId} {cs : List SC} {c : Bool} (hid : Nat.blt s n = true) (hs : lk st.L s = some (.c (.ptr s 0))) (hlk : lk st.H s = some (.cells t cs)) (hdec : decs g m cs = some (c, l, [])) (hc : c = true) (hm : m ≤ 140737488355328) :
    Wk X n st ⟨(s, .c (.elt s g.size 0 0)) :: subL s .dead st.L, (s, .row t g l (some m)) :: delH s .dead st.H⟩ := fun R W Bi M a w ⟨ks, env, B, w0, H, hM, h⟩ => by
  obtain ⟨ck, Y, Z, ⟨b, vs, he, rfl, hcs⟩, h2, h3⟩ := h.heap.take hlk
  obtain ⟨hl, v1, v2, hv, hfl, hv2⟩ := decs_ok hcs hdec hc
  have hv2' : v2 = [] := hv2
  subst hv2'
  rw [List.append_nil] at hv
  subst hv
  subst hl
  obtain ⟨H2, h4, h5, _⟩ := h3 (upd env s (.row (some ⟨b, 0, none⟩) l.length l.length)) .dead upd_other (fun _ _ => trivial)
  have hp : (H ++ ks.map mkO).Perm (Ck.cel b vs t :: (Y ++ Z ++ ks.map mkO)) := by
    rw [h2]
    simp only [List.append_assoc, List.cons_append]
    exact List.perm_middle
  have hs1 : SH (fun k => R k ∨ B k) w0 (Ck.cel b vs t :: (H2 ++ ks.map mkO)) w := (h.sh.perm hp).weak ((h4.append_right _).cons_cons _)
  refine ⟨ks, upd env s (.row (some ⟨b, 0, none⟩) l.length l.length), B, w0, .row (some ⟨b, 0, none⟩) l.length t g.size l.length vs :: H2, hM, h.size, h.defs, fun q u hu => ?_, ⟨_, H2, rfl, ⟨_, _, vs, upd_self, rfl, hfl, fun q hq => by cases hq; rfl⟩, h5⟩, hs1.toRow (FR.flat_length hfl) hm, h.sub, h.new, pin_upd h.pin (fun q hp => by have h1 := (h.pin _ _ hp).1; have h2 := lt_of_blt hid; omega), h.base, h.glob⟩
  rw [lk_cons] at hu
  split at hu
  · rename_i e
    subst e
    cases hu
    obtain ⟨u', h6, b', h7, h8⟩ := h.has _ _ hs
    rw [he] at h7
    cases h7
    exact ⟨u', h6, b, _, _, upd_self, by rw [h8]; simp⟩
  · obtain ⟨u0, hu0, rfl⟩ := lk_subL hu
    obtain ⟨u', h6, h7⟩ := h.has q u0 hu0
    exact ⟨u', h6, VR.sub (z := .dead) upd_other (fun _ _ => trivial) h7⟩
end
section
variable {X : Cx} {M : Bool} {n : Nat} {r : Option Nat} {st : ASt} {Q : Exit → ASt → Prop} {ops rest : List Oper} {o : Oper} {d : Nat}
/-- Some operations. -/
theorem al_upN (k : Nat) (hX : X.tt.ok X.P) {c' : Bool} {st' : ASt} {l : List Oper} (h : arun X n (dstsOf ops) (l.take k) true st = .done c' st') (hc : c' = true) (hQ : AL X M n r ops (l.drop k) st' Q) : AL X M n r ops l st Q := by
  have : ∀ (k : Nat) (l : List Oper) (c : Bool) (st : ASt), arun X n (dstsOf ops) (l.take k) c st = .done c' st' → AL X M n r ops (l.drop k) st' Q → AL X M n r ops l st Q := by
    intro k
    induction k with
    | zero => intro l c st h hQ; simp only [List.take_zero, arun] at h; cases h; exact hQ
    | succ k ih =>
      intro l c st h hQ
      cases l with
      | nil => simp only [List.take_nil, arun] at h; cases h; exact hQ
      | cons o l =>
        simp only [List.take_succ_cons, arun] at h
        split at h
        · rename_i c2 st2 hs
          have h2 := arun_c h hc
          simp only [Bool.and_eq_true] at h2
          rintro R W Bi a w ⟨ks, env, B, w0, H, hM, hA⟩
          exact xl_cons (astep_ok hX hs h2.2 hA fun a' w' env' H' _ hA' => ih l _ _ h hQ _ _ _ _ _ ⟨ks, env', B, w0, H', hM, hA'⟩)
        · cases h
  exact this k l true st h hQ
end
end Go.Proofs.YtihcolehefloeaaDoor

/- Structs are compared. -/
namespace Go.Proofs.YtihcolehefloeaaDoor
open Go.RowKit
/-- Kinds of data that can be compared. -/
def GTy.key : GTy → Bool
  | .int _ => true
  | .bool => true
  | .str => true
  | .pair g h => g.key && h.key
  | _ => false
def GTy.vals : (g : GTy) → g.D → List Value
  | .int k, x => [.int k x]
  | .bool, x => [.bool x]
  | .str, x => [strV x]
  | .pair g h, x => g.vals x.1 ++ h.vals x.2
  | _, _ => []
theorem FR.vals {B : Nat → Prop} {w : World} : ∀ {g : GTy} {x : g.D} {vs : List Value}, g.key = true → FR B w g x vs → vs = g.vals x
  | .int _, _, _, _, h => h
  | .bool, _, _, _, h => h
  | .str, _, _, _, h => h
  | .sl _, _, _, h, _ => by cases h
  | .csl _, _, _, h, _ => by cases h
  | .unit, _, _, h, _ => by cases h
  | .pair g h, x, _, hk, ⟨v1, v2, e, h1, h2⟩ => by
    simp only [GTy.key, Bool.and_eq_true] at hk
    rw [e, FR.vals hk.1 h1, FR.vals hk.2 h2]
    rfl
theorem beq_iff {g : GTy} (x y : g.D) (hk : g.key = true) : g.beq x y = true ↔ x = y := by
  induction g with
  | int k => show ((x : Int) == y) = true ↔ _; simp
  | bool => show ((x : Bool) == y) = true ↔ _; simp
  | str => show ((x : List UInt8) == y) = true ↔ _; simp
  | sl g _ => cases hk
  | csl g _ => cases hk
  | unit => cases hk
  | pair g h ih1 ih2 =>
    simp only [GTy.key, Bool.and_eq_true] at hk
    show (g.beq x.1 y.1 && h.beq x.2 y.2) = true ↔ _
    rw [Bool.and_eq_true, ih1 _ _ hk.1, ih2 _ _ hk.2]
    exact ⟨fun ⟨a, b⟩ => Prod.ext a b, fun e => by rw [e]; exact ⟨rfl, rfl⟩⟩
/-- Values of a struct's type can be compared. -/
structure KeyOk (P : Program) (t : TypeId) (g : GTy) : Prop where
  key : g.key = true
  eq : ∀ (x y : g.D) (w : World), (Op.equalIn 10000 t (.agg (g.vals x).toArray) (.agg (g.vals y).toArray)).run P w = .ok (g.beq x y) w
  guard : P.eqGuardType P.depth t = false
def GTy.isK : GTy → Nat → Bool
  | .int _, 0 => true
  | .bool, 1 => true
  | .str, 2 => true
  | _, _ => false
def eqFs (e : TypeId → GTy → Bool) : Nat → List Field → GTy → Bool
  | _, [], _ => false
  | off, [f], g => decide (f.name ≠ "_") && (Nat.beq f.offset off && e f.type g)
  | off, f :: fs, .pair g h => decide (f.name ≠ "_") && (Nat.beq f.offset off && (e f.type g && eqFs e (off + g.size) fs h))
  | _, _, _ => false
/-- The type's cells are those of the kind. -/
def eqT (P : Program) (tt : TT) : Nat → TypeId → GTy → Bool
  | 0, _, _ => false
  | d + 1, t, g => match tt.find t with
    | none => false
    | some te => match te.ti.desc with
      | .int _ => g.isK 0
      | .bool => g.isK 1
      | .string => g.isK 2
      | .struct fs => Nat.beq te.ti.size g.size && (!P.stoodInHeld t && eqFs (eqT P tt d) 0 fs.toList g)
      | _ => false
def vd (tt : TT) (t : TypeId) (vs : List Value) : Value := match tt.find t with
  | some te => match isAggD te.ti.desc with
    | true => .agg vs.toArray
    | false => vs.headD undef
  | none => undef
theorem vals_len : ∀ {g : GTy} (x : g.D), g.key = true → (g.vals x).length = g.size
  | .int _, _, _ => rfl
  | .bool, _, _ => rfl
  | .str, _, _ => rfl
  | .sl _, _, h => by cases h
  | .csl _, _, h => by cases h
  | .unit, _, h => by cases h
  | .pair g h, x, hk => by
    simp only [GTy.key, Bool.and_eq_true] at hk
    show (g.vals x.1 ++ h.vals x.2).length = g.size + h.size
    rw [List.length_append, vals_len x.1 hk.1, vals_len x.2 hk.2]
theorem run_part_vd {P : Program} {tt : TT} (hX : tt.ok P) {d : Nat} {t : TypeId} {g : GTy} {x : g.D} {xs : Array Value} {off : Nat} {r : List Value} (hk : g.key = true) (he : eqT P tt d t g = true) (hx : xs.toList.drop off = g.vals x ++ r) (w : World) : (part t xs off).run P w = .ok (vd tt t (g.vals x)) w := by
  cases d with
  | zero => cases he
  | succ d =>
    unfold eqT at he
    cases hf : tt.find t with
    | none => simp [hf] at he
    | some te =>
      rw [hf] at he
      dsimp only at he
      have hti := (TT.get hX hf).ti
      have h1 : ∀ v, g.vals x = [v] → xs[off]? = some v := fun v hv => by
        have h2 : (xs.toList.drop off)[0]? = some v := by rw [hx, hv]; rfl
        rw [List.getElem?_drop] at h2
        simpa using h2
      unfold part
      simp only [Sem.run_bind, TI.run_isAgg hti, Result.andThen_ok]
      unfold vd
      rw [hf]
      dsimp only
      have hone : ∀ q, g.isK q = true → ∃ v, g.vals x = [v] := fun q hq => by
        cases g with
        | int k => exact ⟨_, rfl⟩
        | bool => exact ⟨_, rfl⟩
        | str => exact ⟨_, rfl⟩
        | sl _ => cases hk
        | csl _ => cases hk
        | unit => cases hk
        | pair _ _ => cases q <;> cases hq
      split at he
      · rename_i hd
        obtain ⟨v, hv⟩ := hone _ he
        rw [hd, h1 v hv, hv]
        rfl
      · rename_i hd
        obtain ⟨v, hv⟩ := hone _ he
        rw [hd, h1 v hv, hv]
        rfl
      · rename_i hd
        obtain ⟨v, hv⟩ := hone _ he
        rw [hd, h1 v hv, hv]
        rfl
      · rename_i fs hd
        simp only [Bool.and_eq_true] at he
        rw [hd]
        have hs := Nat.eq_of_beq_eq_true he.1
        simp only [isAggD, if_true, Sem.run_bind, TI.run_sizeOf hti, Result.andThen_ok, Sem.run_pure, hs]
        have h3 : xs.extract off (off + g.size) = (g.vals x).toArray := by
          apply Array.toList_inj.1
          rw [Array.toList_extract, List.extract_eq_take_drop, hx, Nat.add_sub_cancel_left, List.take_left' (vals_len x hk)]
        rw [h3]
      · cases he
theorem eqFs_ok {P : Program} {tt : TT} (hX : tt.ok P) {k d : Nat} (ih : ∀ t (g : GTy) (x y : g.D) w, g.key = true → eqT P tt k t g = true → (Op.equalIn d t (vd tt t (g.vals x)) (vd tt t (g.vals y))).run P w = .ok (g.beq x y) w) :
    ∀ (fs : List Field) (off : Nat) (g : GTy) (x y : g.D) (xs ys : Array Value) (w : World), g.key = true → eqFs (eqT P tt k) off fs g = true → xs.toList.drop off = g.vals x → ys.toList.drop off = g.vals y → (Op.eqFields d xs ys fs).run P w = .ok (g.beq x y) w := by
  intro fs
  induction fs with
  | nil => intro off g x y xs ys w _ h; simp [eqFs] at h
  | cons f fs ihf =>
    intro off g x y xs ys w hk h hx hy
    cases fs with
    | nil =>
      have h' : (decide (f.name ≠ "_") && (Nat.beq f.offset off && eqT P tt k f.type g)) = true := by
        cases g <;> exact h
      simp only [Bool.and_eq_true, decide_eq_true_eq] at h'
      obtain ⟨hn, ho, he⟩ := h'
      have ho := Nat.eq_of_beq_eq_true ho
      simp only [Op.eqFields, if_pos hn, Sem.run_bind, ho, run_part_vd hX hk he (r := []) (by rw [hx, List.append_nil]), run_part_vd hX hk he (r := []) (by rw [hy, List.append_nil]), Result.andThen_ok, ih _ _ _ _ _ hk he]
      cases g.beq x y <;> simp
    | cons f2 fs =>
      cases g with
      | pair g h2 =>
        have h' : (decide (f.name ≠ "_") && (Nat.beq f.offset off && (eqT P tt k f.type g && eqFs (eqT P tt k) (off + g.size) (f2 :: fs) h2))) = true := h
        simp only [Bool.and_eq_true, decide_eq_true_eq] at h'
        obtain ⟨hn, ho, he, hr⟩ := h'
        have ho := Nat.eq_of_beq_eq_true ho
        simp only [GTy.key, Bool.and_eq_true] at hk
        have hx' : xs.toList.drop off = g.vals x.1 ++ h2.vals x.2 := hx
        have hy' : ys.toList.drop off = g.vals y.1 ++ h2.vals y.2 := hy
        have hrest := ihf (off + g.size) h2 x.2 y.2 xs ys w hk.2 hr (by rw [← List.drop_drop, hx', ← vals_len x.1 hk.1, List.drop_left]) (by rw [← List.drop_drop, hy', ← vals_len y.1 hk.1, List.drop_left])
        show _ = Result.ok (g.beq x.1 y.1 && h2.beq x.2 y.2) w
        rw [Op.eqFields, if_pos hn]
        simp only [Sem.run_bind, ho, run_part_vd hX hk.1 he hx', run_part_vd hX hk.1 he hy', Result.andThen_ok, ih _ _ _ _ _ hk.1 he]
        cases hb : g.beq x.1 y.1 with
        | true => simpa using hrest
        | false => simp
      | int _ => simp [eqFs] at h
      | bool => simp [eqFs] at h
      | str => simp [eqFs] at h
      | sl _ => simp [eqFs] at h
      | csl _ => simp [eqFs] at h
      | unit => simp [eqFs] at h
theorem eqT_ok {P : Program} {tt : TT} (hX : tt.ok P) (m : Nat) : ∀ (k : Nat) (t : TypeId) (g : GTy) (x y : g.D) (w : World), g.key = true → eqT P tt k t g = true → (Op.equalIn (m + k) t (vd tt t (g.vals x)) (vd tt t (g.vals y))).run P w = .ok (g.beq x y) w := by
  intro k
  induction k with
  | zero => intro t g x y w _ h; cases h
  | succ k ih =>
    intro t g x y w hk h
    have h0 := h
    unfold eqT at h
    cases hf : tt.find t with
    | none => simp [hf] at h
    | some te =>
      rw [hf] at h
      dsimp only at h
      have hti := (TT.get hX hf).ti
      have hd0 := hti.1
      unfold vd
      rw [hf]
      dsimp only
      split at h
      · rename_i k1 hd
        rw [hd] at hd0 ⊢
        cases g with
        | int k => exact run_equalIn_int w _ t _ _ _ _ hd0
        | _ => cases h
      · rename_i hd
        rw [hd] at hd0 ⊢
        cases g with
        | bool => exact run_equalIn_bool w _ t _ _ hd0
        | _ => cases h
      · rename_i hd
        rw [hd] at hd0 ⊢
        cases g with
        | str =>
          have := run_equalIn_string (P := P) w (m + k) t ⟨List.toArray x⟩ ⟨List.toArray y⟩ hd0
          simp only [bytes_toList] at this
          exact this
        | _ => cases h
      · rename_i fs hd
        rw [hd] at hd0 ⊢
        simp only [Bool.and_eq_true, Bool.not_eq_true'] at h
        have hfs : P.underlying t = some (.struct fs.toList.toArray) := by simpa using hd0
        show (Op.equalIn (m + k + 1) t (.agg _) (.agg _)).run P w = _
        rw [eq_struct w (m + k) t _ _ hfs h.2.1]
        exact eqFs_ok hX ih fs.toList 0 g x y _ _ w hk h.2.2 (by simp) (by simp)
      · cases h
theorem KeyOk.of {P : Program} {tt : TT} (hX : tt.ok P) {t : TypeId} {te : TE} {g : GTy} {fs : Array Field} (hk : g.key = true) (hf : tt.find t = some te) (hd : te.ti.desc = .struct fs) (h : eqT P tt 12 t g = true) (hg : P.eqGuardType P.depth t = false) : KeyOk P t g := by
  refine ⟨hk, fun x y w => ?_, hg⟩
  have := eqT_ok hX 9988 12 t g x y w hk h
  unfold vd at this
  rw [hf] at this
  dsimp only at this
  rw [hd] at this
  exact this
section
variable {X : Cx} {M : Bool} {n : Nat} {r : Option Nat} {st : ASt} {Q : Exit → ASt → Prop} {ops rest : List Oper} {o : Oper} {d : Nat}
theorem CsR.vals {env : Nat → Loc} {B : Nat → Prop} {w : World} {g : GTy} {cs : List SC} {x : g.D} {c : Bool} {v : Value} (hk : g.key = true) (h1 : SaR env B w (.agg cs) v) (hd : dec g cs = some (c, x, [])) (hc : c = true) : v = .agg (g.vals x).toArray := by
  obtain ⟨vs, rfl, h1⟩ := h1
  obtain ⟨v1, v2, e2, hf, h2⟩ := dec_ok h1 hd hc
  have h4 : v2 = [] := h2
  subst h4
  rw [List.append_nil] at e2
  subst e2
  rw [FR.vals hk hf]
theorem al_neqA {t t' : TypeId} {u v : Operand} {g1 g2 c1 c2 : Bool} {cs ds : List SC} {g : GTy} {x y : g.D} (hK : KeyOk X.P t g) (hop : o.op = .binOp .neq t u v t') (ho : o.guard = none ∧ o.dst = some d) (hd : Nat.blt d n = true)
    (hu : ae X st.L u = some (g1, .agg cs)) (hg1 : g1 = true) (hv : ae X st.L v = some (g2, .agg ds)) (hg2 : g2 = true) (hx : dec g cs = some (c1, x, [])) (hc1 : c1 = true) (hy : dec g ds = some (c2, y, [])) (hc2 : c2 = true)
    (hnext : AL X M n r ops rest ⟨(d, .c (.val (.bool (!(g.beq x y))))) :: st.L, st.H⟩ Q) : AL X M n r ops (o :: rest) st Q := by
  rintro R W Bi a w ⟨ks, env, B, w0, H, hM, hA⟩
  obtain ⟨vu, h1, h2⟩ := hA.ev hu hg1
  obtain ⟨vv, h3, h4⟩ := hA.ev hv hg2
  rw [CsR.vals hK.key h2 hx hc1] at h1
  rw [CsR.vals hK.key h4 hy hc2] at h3
  refine xl_cons (x_value hA.stt ho.1 ho.2 (lt_of_blt hd) (v := .bool (!(g.beq x y))) (w' := w) (p_neq_a hA.stt hop h1 h3 hK.guard (hK.eq x y) w) fun a' hS => ?_)
  exact hnext R W Bi a' _ ⟨ks, env, B, w0, H, hM, hA.set (sv := .c (.val (.bool (!(g.beq x y))))) rfl hS⟩
end
end Go.Proofs.YtihcolehefloeaaDoor

/- Arguments of any kind of plain data. -/
namespace Go.Proofs.YtihcolehefloeaaDoor
open Go.ChangeShapes Go.WideShapes Go.ChangeAt Go.WideElems Go.RowKit
/-- Numbers are in the range of their kind. -/
def WfD : (g : GTy) → g.D → Prop
  | .int k, (x : Int) => k.min ≤ x ∧ x ≤ k.max
  | .sl g, (l : List g.D) => ∀ y ∈ l, WfD g y
  | .pair g h, x => WfD g x.1 ∧ WfD h x.2
  | _, _ => True
def sizeIs (tt : TT) (t : TypeId) (n : Nat) : Bool := match tt.find t with
  | some te => Nat.beq te.ti.size n
  | none => false
def fsG (tt : TT) (e : TypeId → GTy → Bool) : Nat → List Field → GTy → Bool
  | _, [], _ => false
  | off, [f], g => Nat.beq f.offset off && (sizeIs tt f.type g.size && e f.type g)
  | off, f :: fs, .pair g h => Nat.beq f.offset off && (sizeIs tt f.type g.size && (e f.type g && fsG tt e (off + g.size) fs h))
  | _, _, _ => false
def arG (tt : TT) (e : TypeId → GTy → Bool) (t : TypeId) (s : Nat) : Nat → GTy → Bool
  | 0, _ => false
  | 1, g => Nat.beq g.size s && e t g
  | n + 1, .pair g h => Nat.beq g.size s && (e t g && arG tt e t s n h)
  | _, _ => false
def GTy.isI : GTy → IntKind → Bool
  | .int k, k' => decide (k = k')
  | _, _ => false
/-- The type's data are of the kind. -/
def tyG (tt : TT) : Nat → TypeId → GTy → Bool
  | 0, _, _ => false
  | d + 1, t, g => match tt.find t with
    | none => false
    | some te => match te.ti.desc with
      | .int k => g.isI k
      | .bool => g.isK 1
      | .string => g.isK 2
      | .slice e => match g with
        | .sl h => Nat.blt 0 h.size && (sizeIs tt e h.size && tyG tt d e h)
        | _ => false
      | .struct fs => Nat.beq te.ti.size g.size && fsG tt (tyG tt d) 0 fs.toList g
      | .array n e => Nat.beq te.ti.size g.size && (match tt.find e with
        | some ee => arG tt (tyG tt d) e ee.ti.size n g
        | none => false)
      | _ => false
section
variable {H : Type} {enc : TypeId × Value → H} {P : Program} {W : World} {tt : TT}
theorem cells_tt (hX : tt.ok P) {t : TypeId} {te : TE} (h : tt.find t = some te) : P.cellsOf t = te.ti.size := by
  obtain ⟨x, h1, h2, _⟩ := TI.info (TT.get hX h).ti
  unfold Program.cellsOf
  rw [h1]
  exact h2
theorem cells_is (hX : tt.ok P) {t : TypeId} {n : Nat} (h : sizeIs tt t n = true) : P.cellsOf t = n := by
  unfold sizeIs at h
  split at h
  · rename_i te hf
    rw [cells_tt hX hf]
    exact Nat.eq_of_beq_eq_true h
  · cases h
theorem slice_dec {g : GTy} {R : g.D → Prop} (hs0 : 0 < g.size) {t e : TypeId} (ht : P.underlying t = some (.slice e)) (hc : P.cellsOf e = g.size) (hdec : DecOk enc P W e g R) : DecOk enc P W t (.sl g) (fun (l : List g.D) => ∀ y ∈ l, R y) := fun k cs x hf => by
  let α := { p : g.D × List Value // R p.1 ∧ FR (fun b => b < W.heap.size) W g p.1 p.2 }
  let f : α → List Value := fun p => p.1.2
  have hs : ∀ x : α, (f x).length = g.size := fun x => x.2.2.length
  rcases DataW.trod_slice ht hf with ⟨h, _⟩ | ⟨a, len, cap, elems, rest, n, _, h, _, _, hl, hm, hlen, hel, _, _⟩
  · subst h
    exact ⟨([] : List g.D), (fun y hy => by cases hy), none, 0, [], rfl, Nat.le_refl _, Nat.zero_le _, rfl, Reads.nil _ _ _, fun _ _ h => absurd h (Nat.lt_irrefl _)⟩
  · subst h
    rw [hc] at hel
    obtain ⟨l, hll, hq⟩ := choose_list (Q := fun i (y : α) => ∀ j, j < g.size → W.cell? ((a.add (i * g.size)).add j) = (f y)[j]?) len (fun i hi => by
      have h1 := hel i hi
      have h2 : elems[i]? = some (elems[i]'(by omega)) := List.getElem?_eq_getElem (by omega)
      rw [h2, Option.bind_eq_some_iff] at h1
      obtain ⟨cs, h3, h4⟩ := h1
      obtain ⟨y, hy1, hy2⟩ := hdec _ _ _ h4
      exact ⟨⟨(y, cs), hy1, hy2⟩, (World.cells?_some h3).2.2⟩)
    have hr : Reads W (some a) len g.size (l.flatMap f) := by
      refine ⟨by rw [flat_length f g.size hs, hll], fun h0 => ?_⟩
      have hz := hq 0 (by omega) 0 hs0
      have hz' : W.cell? a = some ((f l[0])[0]'(by rw [hs]; exact hs0)) := by
        have e2 : (a.add (0 * g.size)).add 0 = a := by simp [Addr.add]
        rw [e2, List.getElem?_eq_getElem (by rw [hs]; exact hs0)] at hz
        exact hz
      have hsp := spot_none hz'
      refine ⟨a.block, a.off, congrArg some hsp, fun j u hu => ?_⟩
      have hj : j < len * g.size := by have := (List.getElem?_eq_some_iff.1 hu).1; rwa [flat_length f g.size hs, hll] at this
      have hdiv : j / g.size < len := (Nat.div_lt_iff_lt_mul hs0).2 hj
      have hmod := Nat.mod_lt j hs0
      have h5 := hq (j / g.size) (by omega) (j % g.size) hmod
      rw [hsp, Addr.add_lit, Addr.add_lit, List.getElem?_eq_getElem (by rw [hs]; exact hmod)] at h5
      have h6 := flat_get f g.size hs l (j / g.size) (j % g.size) (by omega) _ (List.getElem?_eq_getElem (by rw [hs]; exact hmod))
      have hjs : j / g.size * g.size + j % g.size = j := by rw [Nat.mul_comm]; exact Nat.div_add_mod j g.size
      rw [hjs, hu] at h6
      rw [Nat.add_assoc, hjs] at h5
      rw [h5, h6]
    refine ⟨l.map (·.1.1), fun x hx => ?_, some a, cap, l.flatMap f, by rw [List.length_map, hll], by rw [List.length_map, hll]; exact hl, hm, flat_sub l, by rw [List.length_map, hll]; exact hr, fun b p hm e => ?_⟩
    · obtain ⟨p, _, rfl⟩ := List.mem_map.1 hx
      exact p.2.1
    · rw [List.length_map] at hm
      obtain ⟨b', p', e', hcell⟩ := hr.2 (by omega)
      rw [e] at e'
      cases e'
      cases hx : (l.flatMap f)[0]? with
      | some u => exact cell_lt (hcell 0 u hx)
      | none =>
        exfalso
        have h3 := hr.1
        rw [List.getElem?_eq_none_iff] at hx
        have h4 : 0 < len * g.size := Nat.mul_pos (by omega) hs0
        omega
theorem fs_dec (hX : tt.ok P) {e : TypeId → GTy → Bool} (ih : ∀ t g, e t g = true → DecOk enc P W t g (WfD g)) : ∀ (fs : List Field) (off : Nat) (g : GTy) (cs : List Value), fsG tt e off fs g = true → cs.length = off + g.size →
    (∀ f ∈ fs, ∃ m x, DataW.trod enc P W 0 (fun _ => true) true m f.type ((cs.drop f.offset).take (P.cellsOf f.type)) = some x) → ∃ y : g.D, WfD g y ∧ FR (fun b => b < W.heap.size) W g y (cs.drop off) := by
  intro fs
  induction fs with
  | nil => intro off g cs h; simp [fsG] at h
  | cons f fs ihf =>
    intro off g cs h hl hf
    cases fs with
    | nil =>
      have h' : (Nat.beq f.offset off && (sizeIs tt f.type g.size && e f.type g)) = true := by
        cases g <;> exact h
      simp only [Bool.and_eq_true] at h'
      obtain ⟨ho, hs, he⟩ := h'
      have ho := Nat.eq_of_beq_eq_true ho
      obtain ⟨m, x, hx⟩ := hf f List.mem_cons_self
      obtain ⟨y, h1, h2⟩ := ih _ _ he _ _ _ hx
      rw [ho, cells_is hX hs, List.take_of_length_le (by rw [List.length_drop]; omega)] at h2
      exact ⟨y, h1, h2⟩
    | cons f2 fs =>
      cases g with
      | pair g h2 =>
        have h' : (Nat.beq f.offset off && (sizeIs tt f.type g.size && (e f.type g && fsG tt e (off + g.size) (f2 :: fs) h2))) = true := h
        simp only [Bool.and_eq_true] at h'
        obtain ⟨ho, hs, he, hr⟩ := h'
        have ho := Nat.eq_of_beq_eq_true ho
        have hl' : cs.length = off + (g.size + h2.size) := hl
        obtain ⟨m, x, hx⟩ := hf f List.mem_cons_self
        obtain ⟨y1, h3, h4⟩ := ih _ _ he _ _ _ hx
        rw [ho, cells_is hX hs] at h4
        obtain ⟨y2, h5, h6⟩ := ihf (off + g.size) h2 cs hr (by omega) (fun q hq => hf q (List.mem_cons_of_mem _ hq))
        refine ⟨(y1, y2), ⟨h3, h5⟩, _, _, ?_, h4, h6⟩
        rw [← List.drop_drop, List.take_append_drop]
      | int _ => simp [fsG] at h
      | bool => simp [fsG] at h
      | str => simp [fsG] at h
      | sl _ => simp [fsG] at h
      | csl _ => simp [fsG] at h
      | unit => simp [fsG] at h
theorem ar_dec {e : TypeId → GTy → Bool} {t : TypeId} {s : Nat} (ih : ∀ g, e t g = true → DecOk enc P W t g (WfD g)) : ∀ (n : Nat) (i0 : Nat) (g : GTy) (cs : List Value), arG tt e t s n g = true → cs.length = i0 * s + g.size →
    (∀ i, i < n → ∃ m x, DataW.trod enc P W 0 (fun _ => true) true m t ((cs.drop ((i0 + i) * s)).take s) = some x) → ∃ y : g.D, WfD g y ∧ FR (fun b => b < W.heap.size) W g y (cs.drop (i0 * s)) := by
  intro n
  induction n with
  | zero => intro i0 g cs h; simp [arG] at h
  | succ n ihn =>
    intro i0 g cs h hl hf
    cases n with
    | zero =>
      have h' : (Nat.beq g.size s && e t g) = true := by
        cases g <;> exact h
      simp only [Bool.and_eq_true] at h'
      obtain ⟨hs, he⟩ := h'
      have hs := Nat.eq_of_beq_eq_true hs
      obtain ⟨m, x, hx⟩ := hf 0 (by omega)
      obtain ⟨y, h1, h2⟩ := ih _ he _ _ _ hx
      rw [Nat.add_zero, List.take_of_length_le (by rw [List.length_drop]; omega)] at h2
      exact ⟨y, h1, h2⟩
    | succ n =>
      cases g with
      | pair g h2 =>
        have h' : (Nat.beq g.size s && (e t g && arG tt e t s (n + 1) h2)) = true := h
        simp only [Bool.and_eq_true] at h'
        obtain ⟨hs, he, hr⟩ := h'
        have hs := Nat.eq_of_beq_eq_true hs
        have hl' : cs.length = i0 * s + (g.size + h2.size) := hl
        obtain ⟨m, x, hx⟩ := hf 0 (by omega)
        obtain ⟨y1, h3, h4⟩ := ih _ he _ _ _ hx
        obtain ⟨y2, h5, h6⟩ := ihn (i0 + 1) h2 cs hr (by rw [Nat.add_mul]; omega) (fun i hi => by
          have := hf (i + 1) (by omega)
          rw [show i0 + 1 + i = i0 + (i + 1) by omega]
          exact this)
        refine ⟨(y1, y2), ⟨h3, h5⟩, _, _, ?_, h4, h6⟩
        rw [Nat.add_zero, Nat.add_mul, Nat.one_mul, ← List.drop_drop, List.take_append_drop]
      | int _ => simp [arG] at h
      | bool => simp [arG] at h
      | str => simp [arG] at h
      | sl _ => simp [arG] at h
      | csl _ => simp [arG] at h
      | unit => simp [arG] at h
theorem tyG_dec (hX : tt.ok P) : ∀ (d : Nat) (t : TypeId) (g : GTy), tyG tt d t g = true → DecOk enc P W t g (WfD g) := by
  intro d
  induction d with
  | zero => intro t g h; cases h
  | succ d ih =>
    intro t g h k cs x hx
    unfold tyG at h
    cases hf : tt.find t with
    | none => simp [hf] at h
    | some te =>
      rw [hf] at h
      dsimp only at h
      have hti := (TT.get hX hf).ti
      have hd0 := hti.1
      have hsz := cells_tt hX hf
      split at h
      · rename_i k1 hd
        rw [hd] at hd0
        cases g with
        | int k2 =>
          have : k2 = k1 := of_decide_eq_true h
          subst this
          exact dec_int hd0 k cs x hx
        | _ => cases h
      · rename_i hd
        rw [hd] at hd0
        cases g with
        | bool =>
          obtain ⟨b, rfl, _⟩ := DataW.trod_bool hd0 hx
          exact ⟨b, trivial, rfl⟩
        | _ => cases h
      · rename_i hd
        rw [hd] at hd0
        cases g with
        | str =>
          obtain ⟨s, rfl, _⟩ := DataW.trod_string hd0 hx
          exact ⟨s.data.toList, trivial, rfl⟩
        | _ => cases h
      · rename_i e hd
        rw [hd] at hd0
        cases g with
        | sl g =>
          simp only [Bool.and_eq_true] at h
          exact slice_dec (lt_of_blt h.1) hd0 (cells_is hX h.2.1) (ih _ _ h.2.2) k cs x hx
        | _ => cases h
      · rename_i fs hd
        rw [hd] at hd0
        simp only [Bool.and_eq_true] at h
        have hs := Nat.eq_of_beq_eq_true h.1
        obtain ⟨xs, n, _, _, hlen, hxl, hel⟩ := DataW.trod_struct hd0 hx
        rw [hsz, hs] at hlen
        obtain ⟨y, h1, h2⟩ := fs_dec (enc := enc) (W := W) hX ih fs.toList 0 g cs h.2 (by omega) (fun f hfm => by
          obtain ⟨i, hi, rfl⟩ := List.mem_iff_getElem.1 hfm
          have hi' : i < fs.size := by simpa using hi
          have h3 := hel i fs[i] (Array.getElem?_eq_getElem hi')
          rw [List.getElem?_eq_getElem (by omega)] at h3
          exact ⟨n, _, by simpa using h3⟩)
        exact ⟨y, h1, h2⟩
      · rename_i n e hd
        rw [hd] at hd0
        simp only [Bool.and_eq_true] at h
        have hs := Nat.eq_of_beq_eq_true h.1
        obtain ⟨xs, m, _, _, hlen, hxl, hel⟩ := DataW.trod_array hd0 hx
        rw [hsz, hs] at hlen
        have h2 := h.2
        split at h2
        · rename_i ee hee
          rw [cells_tt hX hee] at hel
          obtain ⟨y, h1, h3⟩ := ar_dec (enc := enc) (W := W) (tt := tt) (fun g hg => ih e g hg) n 0 g cs h2 (by omega) (fun i hi => by
            have h3 := hel i hi
            rw [List.getElem?_eq_getElem (by omega)] at h3
            rw [Nat.zero_add]
            exact ⟨m, _, h3⟩)
          rw [Nat.zero_mul] at h3
          exact ⟨y, h1, h3⟩
        · cases h2
      · cases h
/-- An argument that is a struct or an array. -/
theorem open_agg (hX : tt.ok P) {t : TypeId} {te : TE} {g : GTy} (hf : tt.find t = some te) (ha : isAggD te.ti.desc = true) (h : tyG tt 12 t g = true) {r : Reach} {b0 : Nat} {v : Value} {d : DataW H} {ps : List MemPlace} (hval : Value.okWide P W r b0 t v) (hd : DataW.Trod enc P W 0 (fun _ => true) true t v d ps) :
    ∃ y : g.D, WfD g y ∧ ∀ env ds, gcells g y 0 g.size = some ds → SaR env (fun b => b < W.heap.size) W (.agg ds) v := by
  have hti := (TT.get hX hf).ti
  obtain ⟨cs, rfl⟩ : ∃ cs, v = .agg cs := by
    have hd0 := hti.1
    unfold Value.okWide at hval
    rw [hd0] at hval
    cases hdd : te.ti.desc with
    | struct fs => rw [hdd] at hval; obtain ⟨cs, e, _⟩ := hval; exact ⟨cs, e⟩
    | array n e => rw [hdd] at hval; obtain ⟨cs, e, _⟩ := hval; exact ⟨cs, e⟩
    | _ => rw [hdd] at ha; cases ha
  obtain ⟨n, hn⟩ := hd
  obtain ⟨y, h1, h2⟩ := tyG_dec hX 12 t g h n _ _ hn
  refine ⟨y, h1, fun env ds hds => ?_⟩
  obtain ⟨us, hp, hc⟩ := FR.cells (env := env) h2 hds
  have hl : cs.toList.length = g.size := h2.length
  have hu : us = cs.toList := by
    refine List.ext_getElem? fun j => ?_
    by_cases hj : j < us.length
    · have := hp.2 j _ (List.getElem?_eq_getElem hj)
      rw [Nat.zero_add] at this
      rw [List.getElem?_eq_getElem hj]
      exact this.symm
    · rw [List.getElem?_eq_none (by omega), List.getElem?_eq_none (by rw [hl]; have := hp.1; omega)]
  subst hu
  exact ⟨cs.toList, rfl, hc⟩
end
end Go.Proofs.YtihcolehefloeaaDoor

/- Arrays in cells by variable indexes; maps: looking up with ok, literals. -/
namespace Go.Proofs.YtihcolehefloeaaDoor
open Go.RowKit
theorem PutAt.mk0 : ∀ (vs l : List Value), vs.length ≤ l.length → PutAt l 0 vs (vs ++ l.drop vs.length)
  | [], _, _ => .nil
  | _ :: _, [], h => by simp at h
  | v :: vs, _ :: l, h => .cons (PutAt.mk0 vs l (by simpa using h))
theorem PutAt.mk' {vs : List Value} : ∀ {l : List Value} {k : Nat}, k + vs.length ≤ l.length → PutAt l k vs (l.take k ++ vs ++ l.drop (k + vs.length))
  | l, 0, h => by
    simp only [List.take_zero, List.nil_append, Nat.zero_add] at h ⊢
    exact PutAt.mk0 vs l h
  | [], k + 1, h => by simp at h
  | c :: l, k + 1, h => by
    have := PutAt.mk' (vs := vs) (l := l) (k := k) (by simp at h; omega)
    rw [show k + 1 + vs.length = (k + vs.length) + 1 by omega]
    exact .skip this
def gall (g : GTy) : List g.D → Option (List SC)
  | [] => some []
  | x :: l => match gcells g x 0 g.size, gall g l with
    | some a, some b => some (a ++ b)
    | _, _ => none
def setC {α : Type} (i : Nat) (y : α) : Nat → List α → List α
  | _, [] => []
  | k, x :: l => cond (Nat.beq i k) y x :: setC i y (k + 1) l
theorem setC_eq {α : Type} (y : α) : ∀ (l : List α) (i k : Nat), setC (i + k) y k l = l.set i y
  | [], _, _ => rfl
  | x :: l, 0, k => by
    show cond (Nat.beq (0 + k) k) y x :: setC (0 + k) y (k + 1) l = y :: l
    rw [show Nat.beq (0 + k) k = true by rw [Nat.zero_add]; exact Nat.beq_refl k, cond_true]
    congr 1
    have : ∀ (l : List α) (i k : Nat), i < k → setC i y k l = l := by
      intro l
      induction l with
      | nil => intros; rfl
      | cons x l ih =>
        intro i k h
        show cond (Nat.beq i k) y x :: setC i y (k + 1) l = _
        have hb : Nat.beq i k = false := by
          cases hb : Nat.beq i k with
          | false => rfl
          | true => have := Nat.eq_of_beq_eq_true hb; omega
        rw [hb, cond_false, ih i (k + 1) (by omega)]
    exact this l _ _ (by omega)
  | x :: l, i + 1, k => by
    show cond (Nat.beq (i + 1 + k) k) y x :: setC (i + 1 + k) y (k + 1) l = x :: l.set i y
    have hb : Nat.beq (i + 1 + k) k = false := by
      cases hb : Nat.beq (i + 1 + k) k with
      | false => rfl
      | true => have := Nat.eq_of_beq_eq_true hb; omega
    rw [hb, cond_false, show i + 1 + k = i + (k + 1) by omega, setC_eq y l i (k + 1)]
section
variable {env : Nat → Loc} {B : Nat → Prop} {w : World}
theorem CsR.take : ∀ {cs : List SC} {vs : List Value} (k : Nat), CsR env B w cs vs → CsR env B w (cs.take k) (vs.take k)
  | _, _, 0, _ => rfl
  | [], vs, k + 1, h => by rw [show vs = [] from h]; rfl
  | c :: cs, vs, k + 1, ⟨v, r, e, h1, h2⟩ => by
    subst e
    exact ⟨v, r.take k, rfl, h1, CsR.take k h2⟩
theorem CsR.drop : ∀ {cs : List SC} {vs : List Value} (k : Nat), CsR env B w cs vs → CsR env B w (cs.drop k) (vs.drop k)
  | _, _, 0, h => h
  | [], vs, k + 1, h => by rw [show vs = [] from h]; rfl
  | c :: cs, vs, k + 1, ⟨v, r, e, h1, h2⟩ => by
    subst e
    exact CsR.drop k h2
theorem CsR.app : ∀ {cs ds : List SC} {vs us : List Value}, CsR env B w cs vs → CsR env B w ds us → CsR env B w (cs ++ ds) (vs ++ us)
  | [], _, vs, _, h, h2 => by rw [show vs = [] from h]; exact h2
  | c :: cs, _, vs, _, ⟨v, r, e, h1, h2⟩, h3 => by
    subst e
    exact ⟨v, _, rfl, h1, CsR.app h2 h3⟩
theorem FR.all {g : GTy} {x : g.D} {vs : List Value} {cs : List SC} (hf : FR B w g x vs) (hg : gcells g x 0 g.size = some cs) : CsR env B w cs vs := by
  obtain ⟨us, ⟨hl, hp⟩, h3⟩ := FR.cells (env := env) hf hg
  have hvl := FR.length hf
  have hus : us = vs := by
    apply List.ext_getElem?
    intro j
    cases hj : us[j]? with
    | some u =>
      have := hp j u hj
      rw [Nat.zero_add] at this
      exact this.symm
    | none =>
      rw [List.getElem?_eq_none_iff] at hj
      exact (List.getElem?_eq_none_iff.2 (by omega)).symm
  subst hus
  exact h3
theorem Flat.all {g : GTy} : ∀ {l : List g.D} {vs : List Value} {cs : List SC}, Flat (FR B w g) l vs → gall g l = some cs → CsR env B w cs vs
  | [], vs, cs, h, hg => by cases hg; exact h
  | x :: l, vs, cs, ⟨v1, v2, e, h1, h2⟩, hg => by
    simp only [gall] at hg
    split at hg
    · rename_i a b ha hb
      cases hg
      subst e
      exact (FR.all h1 ha).app (Flat.all h2 hb)
    · cases hg
end
def GTy.isPair : GTy → Bool
  | .pair _ _ => true
  | _ => false
theorem VD.of_FR {B : Nat → Prop} {w : World} {g : GTy} {x : g.D} {vs : List Value} (h : FR B w g x vs) (hp : g.isPair = true) : VD B w g x (.agg vs.toArray) := by
  cases g with
  | pair a b => exact ⟨vs, rfl, h⟩
  | _ => cases hp
theorem VD.of_FR1 {B : Nat → Prop} {w : World} {g : GTy} {x : g.D} {v : Value} (h : FR B w g x [v]) (hp : g.isPair = false) : VD B w g x v := by
  cases g with
  | pair a b => cases hp
  | _ => exact h
section
variable {X : Cx} {M : Bool} {n : Nat} {r : Option Nat} {st : ASt} {Q : Exit → ASt → Prop} {ops rest : List Oper} {o : Oper} {d : Nat}
/-- An element of an array in cells is read. -/
theorem al_loadX (g : GTy) (p m : Nat) (z : Int) (hX : X.tt.ok X.P) {t T : TypeId} {te : TE} {x : Operand} {id : Nat} {cs r' : List SC} {l : List g.D} {g1 c : Bool} {sa : SA} (hop : o.op = .load t x) (ho : o.guard = none ∧ o.dst = some d) (hd : Nat.blt d n = true)
    (ht : X.tt.find t = some te) (hsz : Nat.beq g.size te.ti.size = true) (hag : isAggD te.ti.desc = g.isPair) (hone : (g.isPair || Nat.beq g.size 1) = true) (hx : ae X st.L x = some (g1, .c (.ptr id (p + z.toNat * g.size)))) (hg1 : g1 = true) (hlk : lk st.H id = some (.cells T cs))
    (hdec : decs g m (cs.drop p) = some (c, l, r')) (hc : c = true) (hz : inB z m = true) (hsa : vSA g (l.getD z.toNat g.zero) = some sa)
    (hnext : AL X M n r ops rest ⟨(d, .a sa) :: st.L, st.H⟩ Q) : AL X M n r ops (o :: rest) st Q := by
  rintro R W Bi a w ⟨ks, env, B, w0, H, hM, hA⟩
  obtain ⟨vx, h1, b, hb, rfl⟩ := hA.ev hx hg1
  obtain ⟨ck, K, ⟨b', vs, hb', rfl, hcs⟩, hfoc⟩ := hA.heap.foc hlk
  rw [hb] at hb'
  cases hb'
  obtain ⟨hl, v1, v2, hv, hfl, _⟩ := decs_ok (hcs.drop p) hdec hc
  obtain ⟨j, rfl, hj, hjn⟩ := inB_ok hz
  rw [Int.toNat_natCast] at h1 hsa
  have hxl : l[j]? = some (l.getD j g.zero) := by rw [List.getD_eq_getElem?_getD, List.getElem?_eq_getElem (by omega)]; rfl
  have h2 := Flat.get (fun _ _ => FR.length) hfl hxl
  have hlen := FR.length h2
  have hcell : ∀ q u, ((v1.drop (j * g.size)).take g.size)[q]? = some u → w.cell? ⟨b, p + j * g.size + q, none⟩ = some u := fun q u hq => by
    rw [cel_cell hA.sh hfoc.more]
    rw [List.getElem?_take] at hq
    split at hq
    · rw [List.getElem?_drop] at hq
      have h3 : (vs.drop p)[j * g.size + q]? = some u := by
        rw [hv, List.getElem?_append_left (List.getElem?_eq_some_iff.1 hq).1]
        exact hq
      rw [List.getElem?_drop] at h3
      rw [Nat.add_assoc]
      exact h3
    · cases hq
  have hi := (TT.get hX ht).ti
  have hsz' := Nat.eq_of_beq_eq_true hsz
  have hfin : ∃ v, (execOp a.eval o).run X.P w = .ok (.value v) w ∧ VD B w0 g (l.getD j g.zero) v := by
    cases hp : g.isPair with
    | true => exact ⟨_, run_loadN hA.stt hop hi (by rw [hag, hp]) h1 (by rw [hlen, hsz']) hcell, VD.of_FR h2 hp⟩
    | false =>
      rw [hp, Bool.false_or] at hone
      have h1s := Nat.eq_of_beq_eq_true hone
      obtain ⟨v, hv1⟩ : ∃ v, (v1.drop (j * g.size)).take g.size = [v] := by
        match hm : (v1.drop (j * g.size)).take g.size, hlen with
        | [v], _ => exact ⟨v, rfl⟩
        | [], h => simp [h1s] at h
        | _ :: _ :: _, h => simp [h1s] at h
      rw [hv1] at hcell h2
      have := hcell 0 v rfl
      rw [Nat.add_zero] at this
      exact ⟨v, run_load1 hA.stt hop hi (by rw [hag, hp]) h1 this, VD.of_FR1 h2 hp⟩
  obtain ⟨v, hrun, hvd⟩ := hfin
  refine xl_cons (x_value hA.stt ho.1 ho.2 (lt_of_blt hd) (v := v) (w' := w) hrun fun a' hS => ?_)
  exact hnext R W Bi a' _ ⟨ks, env, B, w0, H, hM, hA.set (sv := .a sa) (hvd.sa hsa) hS⟩
/-- An element of an array in cells is set. -/
theorem al_storeX (g : GTy) (p m : Nat) (z : Int) (hpos : Nat.blt 0 g.size = true) (hX : X.tt.ok X.P) {t T : TypeId} {te : TE} {x y : Operand} {id : Nat} {cs r' : List SC} {l : List g.D} {g1 g2 c c2 : Bool} {sy : SA} {xv : g.D} {cs' : List SC} (hop : o.op = .store t x y) (ho : o.guard = none ∧ o.dst = none)
    (ht : X.tt.find t = some te) (hsz : Nat.beq g.size te.ti.size = true) (hx : ae X st.L x = some (g1, .c (.ptr id (p + z.toNat * g.size)))) (hg1 : g1 = true) (hy : ae X st.L y = some (g2, sy)) (hg2 : g2 = true) (hlk : lk st.H id = some (.cells T cs))
    (hdec : decs g m (cs.drop p) = some (c, l, r')) (hc : c = true) (hz : inB z m = true) (hdy : dec g sy.cells = some (c2, xv, [])) (hc2 : c2 = true) (hsh : sShape g sy = true) (hlive : lives sy.cells = true) (hnew : gall g (setC z.toNat xv 0 l) = some cs')
    (hnext : AL X M n r ops rest ⟨st.L, putH id (.cells T (cs.take p ++ (cs' ++ r'))) st.H⟩ Q) : AL X M n r ops (o :: rest) st Q := by
  rintro R W Bi a w ⟨ks, env, B, w0, H, hM, hA⟩
  obtain ⟨vx, h1, b, hb, rfl⟩ := hA.ev hx hg1
  obtain ⟨vy, hvy, hry⟩ := hA.ev hy hg2
  obtain ⟨ck, K, ⟨b', vs, hb', rfl, hcs⟩, hfoc, hset⟩ := hA.setBlk (b' := .cells T (cs.take p ++ (cs' ++ r'))) hlk
  rw [hb] at hb'
  cases hb'
  obtain ⟨hl, v1, v2, hv, hfl, hr'⟩ := decs_ok (hcs.drop p) hdec hc
  obtain ⟨j, rfl, hj, hjn⟩ := inB_ok hz
  rw [Int.toNat_natCast] at h1 hnew
  have hcy : CsR env B w0 sy.cells vy.cells.toList := hry.cells fun c e => by
    subst e
    simp only [SA.cells, lives, Bool.and_true] at hlive
    exact CR.one hlive hry
  have hone := hcy.ones hlive
  obtain ⟨u1, u2, hu, hfu, hu2⟩ := dec_ok hcy hdy hc2
  have hu2' : u2 = [] := hu2
  subst hu2'
  rw [List.append_nil] at hu
  rw [← hu] at hfu
  have hul := FR.length hfu
  have hsz' := Nat.eq_of_beq_eq_true hsz
  have hi := (TT.get hX ht).ti
  have hflat := Flat.set (fun _ _ => FR.length) hfl (by omega : j < l.length) hfu
  have hvl := FR.flat_length hfl
  have hjs : (j + 1) * g.size ≤ l.length * g.size := Nat.mul_le_mul_right _ (by omega)
  rw [Nat.add_mul, Nat.one_mul] at hjs
  have hvs : vs = vs.take p ++ (v1 ++ v2) := by rw [← hv, List.take_append_drop]
  have hset' := setC_eq xv l j 0
  rw [Nat.add_zero] at hset'
  rw [hset'] at hnew
  have hnewR := Flat.all (env := env) hflat hnew
  have hdl := congrArg List.length hv
  rw [List.length_drop, List.length_append] at hdl
  have hpos' := lt_of_blt hpos
  have hle : p + j * g.size + vy.cells.toList.length ≤ vs.length := by rw [hul]; omega
  refine xl_cons (run_store_cel hA.sym hop ho hi h1 hvy (by rw [← hsz', ← hul]; simp) hone hfoc (PutAt.mk' hle) fun a' w' hY => ?_)
  obtain ⟨A, hA1⟩ : ∃ A, A = vs.take p := ⟨_, rfl⟩
  have hAl : A.length = p := by rw [hA1, List.length_take]; omega
  have e1 : vs.take (p + j * g.size) = A ++ v1.take (j * g.size) := by
    rw [hvs, ← hA1, List.take_append, hAl, List.take_of_length_le (by omega), show p + j * g.size - p = j * g.size by omega, List.take_append_of_le_length (by omega)]
  have e2 : vs.drop (p + j * g.size + vy.cells.toList.length) = v1.drop (j * g.size + g.size) ++ v2 := by
    rw [hvs, ← hA1, hul, List.drop_append, hAl, List.drop_of_length_le (by omega), List.nil_append, show p + j * g.size + g.size - p = j * g.size + g.size by omega, List.drop_append_of_le_length (by omega)]
  obtain ⟨H', h3⟩ := hset _ a' w' ⟨b, _, hb, rfl, by
    rw [e1, e2]
    have := (CsR.take p hcs).app (hnewR.app hr')
    rw [← hA1] at this
    simpa only [List.append_assoc] using this⟩ hY.sh hY.st
  exact hnext R W Bi a' _ ⟨ks, env, B, w0, H', hM, h3⟩
theorem al_mapins (hX : X.tt.ok X.P) {t kt et : TypeId} {te ke : TE} {k : IntKind} {gv : GTy} {u x y : Operand} {id : Nat} {l : List (Int × gv.D)} {om : Option (List MapEntry × Nat)} {z : Int} {g g2 c : Bool} {sy : SA} {xv : gv.D} (hop : o.op = .insert t u x y) (ho : o.guard = none ∧ o.dst = none)
    (ht : X.tt.find t = some te) (hte : te.ti.desc = .map kt et) (hk : X.tt.find kt = some ke) (hke : ke.ti.desc = .int k)
    (hu : ae X st.L u = some (true, .c (.mref id))) (hx : ae X st.L x = some (g, .c (.val (.int k z)))) (hg : g = true) (hy : ae X st.L y = some (g2, sy)) (hg2 : g2 = true) (hlk : lk st.H id = some (.mp (.int k) gv l om))
    (hdec : dec gv sy.cells = some (c, xv, [])) (hc : c = true) (hsh : sShape gv sy = true)
    (hnext : AL X M n r ops rest ⟨st.L, putH id (.mp (.int k) gv (mset (.int k) gv l z xv) none) st.H⟩ Q) : AL X M n r ops (o :: rest) st Q := by
  rintro R W Bi a w ⟨ks, env, B, w0, H, hM, hA⟩
  obtain ⟨vu, h1, b, hb, rfl⟩ := hA.ev hu rfl
  obtain ⟨vx, h2, h3⟩ := hA.ev hx hg
  rw [show vx = _ from h3] at h2
  obtain ⟨vy, h4, h5⟩ := hA.ev hy hg2
  have hvd : VD B w0 gv xv vy := VD.ofSA hdec hc hsh h5
  obtain ⟨ck, K, ⟨b', es, clock, hb', rfl, hmr, hst, _⟩, hfoc, hset⟩ := hA.setBlk (b' := .mp (.int k) gv (mset (.int k) gv l z xv) none) hlk
  rw [hb] at hb'
  cases hb'
  have hob := (hA.sh.ok _ hfoc.mem).2
  have e1 := (TT.get hX ht).ti.1
  rw [hte] at e1
  have e3 := (TT.get hX hk).ti.1
  rw [hke] at e3
  have hfin : ∃ es' clock', (Instr.mapUpdate t (.map (some b)) (.int k z) vy).run X.P w = .ok () { w with heap := w.heap.setIfInBounds b (.map es'.toArray clock') } ∧ MR B w0 (.int k) gv (mset (.int k) gv l z xv) es' ∧ Stamped es' clock' := by
    unfold Instr.mapUpdate
    rw [show (10000 : Nat) = 9999 + 1 from rfl]
    simp only [Sem.run_bind, run_underlying e1, Result.andThen_ok, MapKept.run_getObj_map hob, run_checkKey_int e3]
    rcases hmr.setInt hvd (z := z) 0 with ⟨h6, h7⟩ | ⟨j, v, e, h6, h7, h8, h9⟩
    · refine ⟨es ++ [MapEntry.mk (.int k z) vy clock], clock + 1, ?_, ?_, ?_⟩
      · simp only [MapKept.run_findKey e3 h6, Result.andThen_ok, MapKept.run_setObj_map _ hob]
        simp
      · rw [h7]
        have hk1 : VD B w0 (.int k) z (.int k z) := show [Value.int k z] = [Value.int k z] from rfl
        exact MR.snoc (gk := .int k) (x := (z, xv)) (e := MapEntry.mk (.int k z) vy clock) hk1 hvd hmr
      · refine ⟨?_, ?_⟩
        · rw [List.map_append, List.pairwise_append]
          exact ⟨hst.1, by simp, fun p hp q hq => by simp at hq; subst hq; exact hst.2 p hp⟩
        · intro p hp
          rw [List.map_append, List.mem_append] at hp
          rcases hp with hp | hp
          · exact Nat.lt_succ_of_lt (hst.2 p hp)
          · simp at hp; omega
    · refine ⟨es.modify j fun e => { e with key := .int k z, val := vy }, clock, ?_, h9, ?_⟩
      · rw [Nat.zero_add] at h6
        have hkeep : (Instr.keyThatStays (((es.toArray[j]?).map (·.key)).getD (.int k z)) (.int k z)).run X.P w = .ok (.int k z) w := by
          have : ((es.toArray[j]?).map (·.key)).getD (.int k z) = .int k z := by simp [h7, h8]
          rw [this]
          simp [Instr.keyThatStays, Instr.sameBits]
        simp only [MapKept.run_findKey e3 h6, Result.andThen_ok, Sem.run_bind, hkeep, MapKept.run_setObj_map _ hob]
        simp
      · rw [Stamped, modify_map (f := fun e => { e with key := .int k z, val := vy }) (fun _ => rfl)]
        exact hst
  obtain ⟨es', clock', hrun, hmr', hst'⟩ := hfin
  refine xl_cons (x_skip hA.stt ho.1 ho.2 (w' := { w with heap := w.heap.setIfInBounds b (.map es'.toArray clock') }) ?_ fun a' hS => ?_)
  · simp [execOp, hop, hA.stt.ev h1, hA.stt.ev h2, hA.stt.ev h4, hrun]
  · obtain ⟨H', h10⟩ := hset _ a' _ ⟨b, es', clock', hb, rfl, hmr', hst', fun _ h => by cases h⟩ (hA.sh.setO hfoc) hS
    exact hnext R W Bi a' _ ⟨ks, env, B, w0, H', hM, h10⟩
end
end Go.Proofs.YtihcolehefloeaaDoor

/- Scopes of labels. -/
namespace Go.Proofs.YtihcolehefloeaaDoor
open Go.RowKit
section
variable {P : Program} {b : Frame} {a : Act} {k : List Item} {cs : List Frame} {w : World} {Q : Exit → Act → World → Prop} {F : Fence} {n : Nat}
end
section
variable {X : Cx} {M : Bool} {n : Nat} {r : Option Nat} {st : ASt} {Q : Exit → ASt → Prop} {c : Code}
end
end Go.Proofs.YtihcolehefloeaaDoor

/- Rows of slices, one of which is a row of one's own for a while. -/
namespace Go.Proofs.YtihcolehefloeaaDoor
open Go.RowKit
section
variable {X : Cx} {M : Bool} {n : Nat} {r : Option Nat} {st : ASt} {Q : Exit → ASt → Prop} {ops rest : List Oper} {o : Oper} {d : Nat}
/-- A row of one's own becomes an element of a row of slices. -/
theorem al_storeH (hX : X.tt.ok X.P) {t T T2 : TypeId} {te : TE} {x y : Operand} {id d i : Nat} {g g' : GTy} {l : List (List g.D)} {l2 : List g'.D} {cap cap2 : Option Nat} {g1 g2 : Bool} (hop : o.op = .store t x y) (ho : o.guard = none ∧ o.dst = none)
    (ht : X.tt.find t = some te) (hsz : Nat.beq te.ti.size 1 = true) (hx : ae X st.L x = some (g1, .c (.elt id 1 i 0))) (hg1 : g1 = true) (hy : ae X st.L y = some (g2, .c (.sl d))) (hg2 : g2 = true) (hlk : lk st.H id = some (.row T (.sl g) l cap)) (hlk2 : lk st.H d = some (.row T2 g' l2 cap2))
    (hi : decide (i < l.length) = true)
    (hnext : AL X M n r ops rest ⟨st.L, putH id (.hrow T g l cap i d) st.H⟩ Q) : AL X M n r ops (o :: rest) st Q := by
  rintro R W Bi a w ⟨ks, env, B, w0, H, hM, hA⟩
  obtain ⟨vx, h1, b, c, m, he, rfl⟩ := hA.ev hx hg1
  obtain ⟨vy, hvy, A2, c2, m2, he2, rfl⟩ := hA.ev hy hg2
  obtain ⟨ck, K, ⟨A, k, xs, he', rfl, hfl, hcap⟩, hf, hset⟩ := hA.setBlk (b' := .hrow T g l cap i d) hlk
  rw [he] at he'
  cases he'
  have hlt := of_decide_eq_true hi
  have hxl := FR.flat_length hfl
  have hxl' : xs.length = l.length := by rw [hxl]; show l.length * 1 = _; omega
  have hi' := (TT.get hX ht).ti
  have hs1 := Nat.eq_of_beq_eq_true hsz
  refine xl_cons (run_store_row (v := .slice A2 m2 c2) hA.sym hop ho hi' h1 hvy (by rw [hs1]; rfl) (by intro u hu; simp [Value.cells] at hu; subst hu; rfl) hf (by show i * 1 + 0 + 1 ≤ l.length * 1; omega) fun a' w' hY => ?_)
  obtain ⟨H', h3⟩ := hset _ a' w' ⟨some ⟨b, 0, none⟩, c, xs, A2, c2, m2, he, rfl, hfl, hlt, he2, hcap⟩ (by
    have e : xs.take (i * 1 + 0) ++ (Value.slice A2 m2 c2).cells.toList ++ xs.drop (i * 1 + 0 + (Value.slice A2 m2 c2).cells.toList.length) = xs.set i (.slice A2 m2 c2) := by
      rw [List.set_eq_take_append_cons_drop, if_pos (by omega)]
      simp [Value.cells]
    have := hY.sh
    rw [e] at this
    exact this) hY.st
  exact hnext R W Bi a' _ ⟨ks, env, B, w0, H', hM, h3⟩
/-- It is read again. -/
theorem al_loadH (hX : X.tt.ok X.P) {t T : TypeId} {te : TE} {x : Operand} {id d2 i : Nat} {g : GTy} {l : List (List g.D)} {cap : Option Nat} {g1 : Bool} (hop : o.op = .load t x) (ho : o.guard = none ∧ o.dst = some d) (hd : Nat.blt d n = true)
    (ht : X.tt.find t = some te) (hag : isAggD te.ti.desc = false) (hx : ae X st.L x = some (g1, .c (.elt id 1 i 0))) (hg1 : g1 = true) (hlk : lk st.H id = some (.hrow T g l cap i d2))
    (hnext : AL X M n r ops rest ⟨(d, .c (.sl d2)) :: st.L, st.H⟩ Q) : AL X M n r ops (o :: rest) st Q := by
  rintro R W Bi a w ⟨ks, env, B, w0, H, hM, hA⟩
  obtain ⟨vx, h1, b, c, m, he, rfl⟩ := hA.ev hx hg1
  obtain ⟨ck, K, ⟨A, k, ys, A', c', m', he', rfl, hfl, hi, he2, _⟩, hf⟩ := hA.heap.foc hlk
  rw [he] at he'
  cases he'
  have hyl := FR.flat_length hfl
  have hyl' : ys.length = l.length := by rw [hyl]; show l.length * 1 = _; omega
  have hown : Owns w (fun k => R k ∨ B k) T 1 (some ⟨b, 0, none⟩) c l.length (ys.set i (.slice A' m' c')) := hA.sh.ok _ hf.more.mem
  have hcell : w.cell? ⟨b, i * 1 + 0, none⟩ = some (.slice A' m' c') := by
    rw [hown.cells rfl _ (by omega)]
    simp [List.getElem?_set, hyl', hi]
  refine xl_cons (x_value hA.stt ho.1 ho.2 (lt_of_blt hd) (v := .slice A' m' c') (w' := w) (run_load1 hA.stt hop (TT.get hX ht).ti hag h1 hcell) fun a' hS => ?_)
  exact hnext R W Bi a' _ ⟨ks, env, B, w0, H, hM, hA.set (sv := .c (.sl d2)) ⟨A', c', m', he2, rfl⟩ hS⟩
end
end Go.Proofs.YtihcolehefloeaaDoor

/- Arrays as values; tables of functions. -/
namespace Go.Proofs.YtihcolehefloeaaDoor
open Go.RowKit
theorem run_indexA {P : Program} {t e : TypeId} {m : Nat} {i' : TI} {cs : List Value} {k : IntKind} {j : Nat} {w : World} (ht : P.underlying t = some (.array m e)) (he : TI.ok P e i') (hj : j < m) {v : Value} (hv : (part e cs.toArray (j * i'.size)).run P w = .ok v w) : (Instr.index t (.agg cs.toArray) (.int k (j : Int))).run P w = .ok v w := by
  have h0 : (0 : Int) ≤ (j : Int) := Int.natCast_nonneg j
  unfold Instr.index
  simp only [asIntOf, Sem.run_bind, Sem.run_pure, Result.andThen_ok, run_underlying ht]
  rw [if_pos ⟨h0, by omega⟩]
  simp only [Sem.run_bind, TI.run_sizeOf he, Result.andThen_ok, Int.toNat_natCast, hv]
theorem part_elem {P : Program} {e : TypeId} {i' : TI} {B : Nat → Prop} {w0 w : World} {g : GTy} {l : List g.D} {vs : List Value} {j : Nat} (he : TI.ok P e i') (hf : Flat (FR B w0 g) l vs) (hj : j < l.length) (hsz : g.size = i'.size) (hag : isAggD i'.desc = g.isPair) (hone : (g.isPair || Nat.beq g.size 1) = true) :
    ∃ v, (part e vs.toArray (j * i'.size)).run P w = .ok v w ∧ VD B w0 g (l.getD j g.zero) v := by
  have hxl : l[j]? = some (l.getD j g.zero) := by rw [List.getD_eq_getElem?_getD, List.getElem?_eq_getElem hj]; rfl
  have h2 := Flat.get (fun _ _ => FR.length) hf hxl
  have hlen := FR.length h2
  cases hp : g.isPair with
  | true =>
    refine ⟨.agg (vs.toArray.extract (j * i'.size) (j * i'.size + i'.size)), ?_, ?_⟩
    · unfold part
      simp [TI.run_isAgg he, hag, hp, TI.run_sizeOf he]
    · have := VD.of_FR h2 hp
      rw [← hsz]
      have e1 : vs.toArray.extract (j * g.size) (j * g.size + g.size) = ((vs.drop (j * g.size)).take g.size).toArray := by
        apply Array.ext'
        simp [Array.toList_extract, List.extract]
      rw [e1]
      exact this
  | false =>
    rw [hp, Bool.false_or] at hone
    have h1s := Nat.eq_of_beq_eq_true hone
    obtain ⟨v, hv1⟩ : ∃ v, (vs.drop (j * g.size)).take g.size = [v] := by
      match hm : (vs.drop (j * g.size)).take g.size, hlen with
      | [v], _ => exact ⟨v, rfl⟩
      | [], h => simp [h1s] at h
      | _ :: _ :: _, h => simp [h1s] at h
    have hget : vs[j * i'.size]? = some v := by
      have := congrArg (·[0]?) hv1
      rw [← hsz]
      simpa [List.getElem?_take, List.getElem?_drop, h1s] using this
    refine ⟨v, ?_, VD.of_FR1 (by rw [← hv1]; exact h2) hp⟩
    unfold part
    simp [TI.run_isAgg he, hag, hp, hget]
/-- An array's elements. -/
def arrL (g : GTy) (m : Nat) : SA → Option (Bool × List g.D)
  | .agg cs => match decs g m cs with
    | some (c, l, []) => some (c, l)
    | _ => none
  | .arr g' l => match decEq g' g with
    | isTrue h => some (true, h ▸ l)
    | isFalse _ => none
  | _ => none
theorem arrL_ok {env : Nat → Loc} {B : Nat → Prop} {w : World} {g : GTy} {m : Nat} {x : SA} {c : Bool} {l : List g.D} {v : Value} (h : SaR env B w x v) (ha : arrL g m x = some (c, l)) (hc : c = true) : ∃ vs, v = .agg vs.toArray ∧ Flat (FR B w g) l vs := by
  unfold arrL at ha
  split at ha
  · split at ha
    · rename_i c' l' hd
      cases ha
      obtain ⟨vs, rfl, h1⟩ := h
      obtain ⟨_, v1, v2, e, h2, h3⟩ := decs_ok h1 hd hc
      have h4 : v2 = [] := h3
      rw [h4, List.append_nil] at e
      subst e
      exact ⟨_, rfl, h2⟩
    · cases ha
  · split at ha
    · rename_i hg _
      subst hg
      cases ha
      exact h
    · cases ha
  · cases ha
section
variable {X : Cx} {M : Bool} {n : Nat} {r : Option Nat} {st : ASt} {Q : Exit → ASt → Prop} {ops rest : List Oper} {o : Oper} {d : Nat}
theorem al_idxA (g : GTy) (m : Nat) (z : Int) (hX : X.tt.ok X.P) {t e : TypeId} {te ee : TE} {u x : Operand} {ux : SA} {k : IntKind} {l : List g.D} {g1 g2 c : Bool} {sa : SA} (hop : o.op = .index t u x) (ho : o.guard = none ∧ o.dst = some d) (hd : Nat.blt d n = true)
    (ht : X.tt.find t = some te) (hte : te.ti.desc = .array m e) (he : X.tt.find e = some ee) (hsz : Nat.beq g.size ee.ti.size = true) (hag : isAggD ee.ti.desc = g.isPair) (hone : (g.isPair || Nat.beq g.size 1) = true) (hu : ae X st.L u = some (g1, ux)) (hg1 : g1 = true)
    (hx : ae X st.L x = some (g2, .c (.val (.int k z)))) (hg2 : g2 = true) (ha : arrL g m ux = some (c, l)) (hc : c = true) (hz : inB z m = true) (hz2 : inB z l.length = true) (hsa : vSA g (l.getD z.toNat g.zero) = some sa)
    (hnext : AL X M n r ops rest ⟨(d, .a sa) :: st.L, st.H⟩ Q) : AL X M n r ops (o :: rest) st Q := by
  rintro R W Bi a w ⟨ks, env, B, w0, H, hM, hA⟩
  obtain ⟨vu, h1, h2⟩ := hA.ev hu hg1
  obtain ⟨vs, rfl, hfl⟩ := arrL_ok h2 ha hc
  obtain ⟨vx, h3, h4⟩ := hA.ev hx hg2
  rw [show vx = _ from h4] at h3
  obtain ⟨j, rfl, hj, _⟩ := inB_ok hz
  obtain ⟨j', hjj, hj', _⟩ := inB_ok hz2
  have hjl : j < l.length := by omega
  rw [Int.toNat_natCast] at hsa
  have e1 := (TT.get hX ht).ti.1
  rw [hte] at e1
  obtain ⟨v, hv, hvd⟩ := part_elem (w := w) (TT.get hX he).ti hfl hjl (Nat.eq_of_beq_eq_true hsz) hag hone
  have hrun := run_indexA (k := k) e1 (TT.get hX he).ti hj hv
  refine xl_cons (x_value hA.stt ho.1 ho.2 (lt_of_blt hd) (v := v) (w' := w) (by simp [execOp, hop, hA.stt.ev h1, hA.stt.ev h3, hrun]) fun a' hS => ?_)
  exact hnext R W Bi a' _ ⟨ks, env, B, w0, H, hM, hA.set (sv := .a sa) (hvd.sa hsa) hS⟩
/-- A whole array is read, out of a row of one's own. -/
theorem al_loadA (hX : X.tt.ok X.P) {t T e : TypeId} {te : TE} {x : Operand} {id m sz : Nat} {g : GTy} {l : List g.D} {cap : Option Nat} {g1 : Bool} (hop : o.op = .load t x) (ho : o.guard = none ∧ o.dst = some d) (hd : Nat.blt d n = true)
    (ht : X.tt.find t = some te) (hte : te.ti.desc = .array m e) (hx : ae X st.L x = some (g1, .c (.elt id sz 0 0))) (hg1 : g1 = true) (hlk : lk st.H id = some (.row T g l cap)) (hsz : Nat.beq te.ti.size (m * g.size) = true) (hl : decide (l.length = m) = true)
    (hnext : AL X M n r ops rest ⟨(d, .a (.arr g l)) :: st.L, st.H⟩ Q) : AL X M n r ops (o :: rest) st Q := by
  rintro R W Bi a w ⟨ks, env, B, w0, H, hM, hA⟩
  obtain ⟨vx, h1, b, c, q, he, rfl⟩ := hA.ev hx hg1
  obtain ⟨ck, K, ⟨A, k, xs, he', rfl, hfl, _⟩, hf⟩ := hA.heap.foc hlk
  rw [he] at he'
  cases he'
  have hown : Owns w (fun k => R k ∨ B k) T g.size (some ⟨b, 0, none⟩) c l.length xs := hA.sh.ok _ hf.more.mem
  have hlen := FR.flat_length hfl
  have hl' := of_decide_eq_true hl
  refine xl_cons (x_value hA.stt ho.1 ho.2 (lt_of_blt hd) (v := .agg xs.toArray) (w' := w) (run_loadN hA.stt hop (TT.get hX ht).ti (by rw [hte]; rfl) h1 (by rw [hlen, hl', Nat.eq_of_beq_eq_true hsz]) fun j v hj => ?_) fun a' hS => ?_)
  · rw [show 0 * sz + 0 + j = j by omega, hown.cells rfl _ (by rw [← hlen]; exact (List.getElem?_eq_some_iff.1 hj).1)]
    exact hj
  · exact hnext R W Bi a' _ ⟨ks, env, B, w0, H, hM, hA.set (sv := .a (.arr g l)) ⟨xs, rfl, hfl⟩ hS⟩
/-- A whole array is read that is frozen. -/
theorem al_loadP (hX : X.tt.ok X.P) {t e : TypeId} {te : TE} {x : Operand} {m : Nat} {g : GTy} {l : List g.D} {g1 : Bool} (hop : o.op = .load t x) (ho : o.guard = none ∧ o.dst = some d) (hd : Nat.blt d n = true)
    (ht : X.tt.find t = some te) (hte : te.ti.desc = .array m e) (hx : ae X st.L x = some (g1, .c (.par g l))) (hg1 : g1 = true) (hsz : Nat.beq te.ti.size (m * g.size) = true) (hl : decide (l.length = m) = true)
    (hnext : AL X M n r ops rest ⟨(d, .a (.arr g l)) :: st.L, st.H⟩ Q) : AL X M n r ops (o :: rest) st Q := by
  rintro R W Bi a w ⟨ks, env, B, w0, H, hM, hA⟩
  obtain ⟨vx, h1, b, p, vs, rfl, hb, hfl, hcell⟩ := hA.ev hx hg1
  have hlen := FR.flat_length hfl
  have hl' := of_decide_eq_true hl
  refine xl_cons (x_value hA.stt ho.1 ho.2 (lt_of_blt hd) (v := .agg vs.toArray) (w' := w) (run_loadN hA.stt hop (TT.get hX ht).ti (by rw [hte]; rfl) h1 (by rw [hlen, hl', Nat.eq_of_beq_eq_true hsz]) fun j v hj => frozen_cell hb (hcell j v hj) hA.sh) fun a' hS => ?_)
  exact hnext R W Bi a' _ ⟨ks, env, B, w0, H, hM, hA.set (sv := .a (.arr g l)) ⟨vs, rfl, hfl⟩ hS⟩
end
end Go.Proofs.YtihcolehefloeaaDoor

/- Strings: out of bytes, parts. -/
namespace Go.Proofs.YtihcolehefloeaaDoor
open Go.RowKit
def bsOf (l : List Int) : List UInt8 := l.map fun z => UInt8.ofNat z.toNat
def isBs (l : List Int) : Bool := l.all fun z => decide (0 ≤ z) && decide (z < 256)
theorem by_back : ∀ l : List Int, isBs l = true → (bsOf l).map (fun c => Value.int .u8 (c.toNat : Int)) = l.map fun z => Value.int .u8 z
  | [], _ => rfl
  | z :: l, h => by
    simp only [isBs, List.all_cons, Bool.and_eq_true, decide_eq_true_eq] at h
    show Value.int .u8 (((UInt8.ofNat z.toNat).toNat : Nat) : Int) :: (bsOf l).map _ = _
    rw [by_back l h.2, List.map_cons]
    congr 2
    have : (UInt8.ofNat z.toNat).toNat = z.toNat := UInt8.toNat_ofNat_of_lt' (by show z.toNat < 256; omega)
    rw [this, Int.toNat_of_nonneg h.1.1]
theorem strV_extract (s : List UInt8) (a b : Nat) : Value.string ((ByteArray.mk s.toArray).extract a b) = strV ((s.take b).drop a) := by
  unfold strV
  congr 1
  apply ByteArray.ext
  rw [ByteArray.data_extract]
  apply Array.ext'
  simp [Array.toList_extract, List.extract, List.drop_take]
section
variable {X : Cx} {M : Bool} {n : Nat} {r : Option Nat} {st : ASt} {Q : Exit → ASt → Prop} {ops rest : List Oper} {o : Oper} {d : Nat}
theorem al_strOf (hX : X.tt.ok X.P) {t t' e : TypeId} {te te' ee : TE} {u : Operand} {ux : SA} {l : List Int} {g : Bool} (hop : o.op = .convert t t' u) (ho : o.guard = none ∧ o.dst = some d) (hd : Nat.blt d n = true)
    (ht : X.tt.find t = some te) (hte : te.ti.desc = .slice e) (ht' : X.tt.find t' = some te') (hte' : te'.ti.desc = .string) (he : X.tt.find e = some ee) (hee : ee.ti.desc = .int .u8)
    (hu : ae X st.L u = some (g, ux)) (hg : g = true) (hs : srcL st (.int .u8) ux = some l) (hb : isBs l = true)
    (hnext : AL X M n r ops rest ⟨(d, .c (.str (bsOf l))) :: st.L, st.H⟩ Q) : AL X M n r ops (o :: rest) st Q := by
  rintro R W Bi a w ⟨ks, env, B, w0, H, hM, hA⟩
  obtain ⟨vu, h1, h2⟩ := hA.ev hu hg
  obtain ⟨A, c, xs, rfl, hfl, hr⟩ := srcL_ok hA hs h2
  obtain ⟨T, hT, q1, q2, q3⟩ := tab3 (TT.get hX ht).ti (TT.get hX ht').ti (TT.get hX he).ti
  rw [flat_ints hfl, ← by_back l hb] at hr
  have hlen : (bsOf l).length = l.length := by simp [bsOf]
  rw [← hlen] at h1 hr
  refine xl_cons (x_value hA.stt ho.1 ho.2 (lt_of_blt hd) (v := strV (bsOf l)) (w' := w) (v_str hA.stt hop hT q1 q2 hte hte' q3 hee h1 w hr) fun a' hS => ?_)
  exact hnext R W Bi a' _ ⟨ks, env, B, w0, H, hM, hA.set (sv := .c (.str (bsOf l))) rfl hS⟩
theorem run_sliceS {P : Program} {t : TypeId} {s : List UInt8} {w : World} (ht : P.underlying t = some .string) {lo hi : Option Value} {a b : Nat} (h : (Instr.sliceBounds false s.length s.length lo hi none).run P w = .ok (a, b, s.length) w) : (Instr.sliceAt t (strV s) lo hi none).run P w = .ok (strV ((s.take b).drop a)) w := by
  have hsz : (ByteArray.mk s.toArray).size = s.length := by simp [ByteArray.size]
  unfold Instr.sliceAt Instr.slice
  simp only [strV, Sem.run_bind, run_underlying ht, Result.andThen_ok, hsz, h, Option.isSome_none, Bool.false_eq_true, if_false, Sem.run_pure]
  have := strV_extract s a b
  simp only [strV] at this
  rw [this]
theorem al_sliceSf (hX : X.tt.ok X.P) {t : TypeId} {te : TE} {u x : Operand} {s : List UInt8} {k : IntKind} {z : Int} {g g2 : Bool} (hop : o.op = .slice t u (some x) none none) (ho : o.guard = none ∧ o.dst = some d) (hd : Nat.blt d n = true)
    (ht : X.tt.find t = some te) (hte : te.ti.desc = .string) (hu : ae X st.L u = some (g, .c (.str s))) (hg : g = true) (hx : ae X st.L x = some (g2, .c (.val (.int k z)))) (hg2 : g2 = true) (h0 : decide (0 ≤ z) = true) (h1 : decide (z ≤ (s.length : Int)) = true)
    (hnext : AL X M n r ops rest ⟨(d, .c (.str (s.drop z.toNat))) :: st.L, st.H⟩ Q) : AL X M n r ops (o :: rest) st Q := by
  rintro R W Bi a w ⟨ks, env, B, w0, H, hM, hA⟩
  obtain ⟨vu, q1, q2⟩ := hA.ev hu hg
  rw [show vu = strV s from q2] at q1
  obtain ⟨vx, q3, q4⟩ := hA.ev hx hg2
  rw [show vx = _ from q4] at q3
  have e1 := (TT.get hX ht).ti.1
  rw [hte] at e1
  have h0' := of_decide_eq_true h0
  have h1' := of_decide_eq_true h1
  have hrun := run_sliceS (w := w) (s := s) (lo := some (.int k z)) (hi := none) (a := z.toNat) (b := s.length) e1 (by simp [Instr.sliceBounds, Instr.sliceBound, asIntOf, h0', h1'])
  rw [List.take_length] at hrun
  refine xl_cons (x_value hA.stt ho.1 ho.2 (lt_of_blt hd) (v := strV (s.drop z.toNat)) (w' := w) (by simp [execOp, hop, hA.stt.ev q1, hA.stt.ev q3, hrun]) fun a' hS => ?_)
  exact hnext R W Bi a' _ ⟨ks, env, B, w0, H, hM, hA.set (sv := .c (.str (s.drop z.toNat))) rfl hS⟩
theorem al_sliceSm (hX : X.tt.ok X.P) {t : TypeId} {te : TE} {u x y : Operand} {s : List UInt8} {k k2 : IntKind} {z z2 : Int} {g g2 g3 : Bool} (hop : o.op = .slice t u (some x) (some y) none) (ho : o.guard = none ∧ o.dst = some d) (hd : Nat.blt d n = true)
    (ht : X.tt.find t = some te) (hte : te.ti.desc = .string) (hu : ae X st.L u = some (g, .c (.str s))) (hg : g = true) (hx : ae X st.L x = some (g2, .c (.val (.int k z)))) (hg2 : g2 = true) (hy : ae X st.L y = some (g3, .c (.val (.int k2 z2)))) (hg3 : g3 = true) (h0 : decide (0 ≤ z) = true) (h1 : decide (z ≤ z2) = true) (h2 : decide (z2 ≤ (s.length : Int)) = true)
    (hnext : AL X M n r ops rest ⟨(d, .c (.str ((s.take z2.toNat).drop z.toNat))) :: st.L, st.H⟩ Q) : AL X M n r ops (o :: rest) st Q := by
  rintro R W Bi a w ⟨ks, env, B, w0, H, hM, hA⟩
  obtain ⟨vu, q1, q2⟩ := hA.ev hu hg
  rw [show vu = strV s from q2] at q1
  obtain ⟨vx, q3, q4⟩ := hA.ev hx hg2
  rw [show vx = _ from q4] at q3
  obtain ⟨vy, q5, q6⟩ := hA.ev hy hg3
  rw [show vy = _ from q6] at q5
  have e1 := (TT.get hX ht).ti.1
  rw [hte] at e1
  have h0' := of_decide_eq_true h0
  have h1' := of_decide_eq_true h1
  have h2' := of_decide_eq_true h2
  have h3' : 0 ≤ z2 := by omega
  have h4' : z ≤ (z2.toNat : Int) := by omega
  have hrun := run_sliceS (w := w) (s := s) (lo := some (.int k z)) (hi := some (.int k2 z2)) (a := z.toNat) (b := z2.toNat) e1 (by
    have h5' : z ≤ max z2 0 := by omega
    simp [Instr.sliceBounds, Instr.sliceBound, asIntOf, h0', h2', h3', h5'])
  refine xl_cons (x_value hA.stt ho.1 ho.2 (lt_of_blt hd) (v := strV ((s.take z2.toNat).drop z.toNat)) (w' := w) (by simp [execOp, hop, hA.stt.ev q1, hA.stt.ev q3, hA.stt.ev q5, hrun]) fun a' hS => ?_)
  exact hnext R W Bi a' _ ⟨ks, env, B, w0, H, hM, hA.set (sv := .c (.str ((s.take z2.toNat).drop z.toNat))) rfl hS⟩
end
end Go.Proofs.YtihcolehefloeaaDoor

/- append to slices that are full: rows that are one's own, or frozen as a whole. -/
namespace Go.Proofs.YtihcolehefloeaaDoor
open Go.RowKit
section
variable {P : Program} {o : Oper} {n d : Nat} {D : List Deferred} {L : List (Nat × Value)} {a : Act} {w w0 : World} {B : Nat → Prop} {H : List Ck} {T : List (TypeId × TI)} {ops : Array Oper} {KK : Act → World → Prop}
theorem y_append_full {s x : Operand} {t e : TypeId} {i i' : TI} {A A2 : Option Addr} {k m cc : Nat} {xs news : List Value} (hX : Sym n D L B w0 H a w)
    (hop : o.op = .call { callee := .builtin .append, args := #[s, x], argTypes := #[t, t] }) (ho : o.guard = none ∧ o.dst = some d) (hd : Nat.blt d n = true)
    (hT : TabOk P T) (h1 : T.lookup t = some i) (h2 : i.desc = .slice e) (h3 : T.lookup e = some i') (h4 : Nat.blt 0 i'.size = true) (h5 : i'.zero.cells.size = i'.size) (hs : ev L s = some (.slice A k k)) (hx : ev L x = some (.slice A2 m cc))
    (hr1 : Reads w A k i'.size xs) (hr : Reads w A2 m i'.size news) (hone : ∀ u ∈ news, u.oneCell' = true) (hb1 : (k + m) * i'.bytes ≤ 140737488355328) (hb2 : k + m ≤ 140737488355328)
    (hz : m = 0 → ∀ a' w', Sym n D ((d, .slice A k k) :: L) B w0 H a' w' → KK a' w')
    (h : ∀ A' c' a' w', Sym n D ((d, .slice A' (k + m) c') :: L) B w0 (.row A' c' e i'.size (k + m) (xs ++ news) :: H) a' w' → KK a' w') : XO P ops o KK a w := by
  have e1 := (hT _ _ h1).1
  rw [h2] at e1
  have e3 := hT _ _ h3
  by_cases hm : m = 0
  · subst hm
    have hrun : (execOp a.eval o).run P w = .ok (.value (.slice A k k)) w := by
      have hrun' : (Builtin.append_ #[t, t] o.type #[.slice A k k, .slice A2 0 cc]).run P w = .ok (.slice A k k) w := by
        have e4 := TI.run_sizeOf e3 w
        have hfc : (Builtin.firstCells i'.size 0 (.slice A2 0 cc)).run P w = .ok #[] w := by
          cases A2 <;> simp [Builtin.firstCells, loadCells, loadCellsFrom]
        simp only [Builtin.append_, Sem.run_bind, run_underlying e1, Result.andThen_ok, e4]
        simp [run_underlying e1, Builtin.lenOf, hfc]
        cases A <;> simp [storeCells, e4, hfc]
      simp [execOp, hop, resolve, invoke, builtin, hX.ev hs, hX.ev hx, hrun']
    exact y_value hX ho hd hrun hX.sh (hz rfl)
  · have hm0 : 0 < m := by omega
    cases A with
    | none =>
      have hk : k = 0 := by
        by_cases hk : k = 0
        · exact hk
        · obtain ⟨b, p, e, _⟩ := hr1.2 (by omega)
          cases e
      subst hk
      have hxs : xs = [] := List.eq_nil_of_length_eq_zero (by rw [hr1.1]; simp)
      subst hxs
      have hsym : Sym n D L B w0 (.row none 0 e i'.size 0 [] :: H) a w := ⟨hX.st, hX.sh.nilRow e i'.size⟩
      exact y_append hsym hop ho hd hT h1 h2 h3 h4 h5 hs hx foc0 hr hone hb1 hb2 h
    | some ad =>
      obtain ⟨inf, hinf, hs1, hs2, hs3⟩ := TI.info e3
      obtain ⟨b2, p2, e', hc2⟩ := hr.2 hm0
      subst e'
      have holds : ∀ j u, xs[j]? = some u → w.cell? (ad.add j) = some u := fun j u hu => by
        have hlt : j < xs.length := (List.getElem?_eq_some_iff.1 hu).1
        rw [hr1.1] at hlt
        have hk : 0 < k := by
          rcases Nat.eq_zero_or_pos k with hk | hk
          · rw [hk, Nat.zero_mul] at hlt; omega
          · exact hk
        obtain ⟨b, p, e', hc1⟩ := hr1.2 hk
        cases e'
        rw [Addr.add_lit]
        exact hc1 j u hu
      have hlen : (xs ++ news).length = (k + m) * i'.size := by rw [List.length_append, hr1.1, hr.1, Nat.add_mul]
      have hrun := run_append_grow (P := P) w t o.type e inf i'.zero e1 hinf hs3 ad k k xs (by rw [hr1.1, hs1]) holds ⟨b2, p2, none⟩ m cc news (by rw [hr.1, hs1]) (fun j u hu => by rw [Addr.add_lit]; exact hc2 j u hu) (by omega) (by omega) (growslice_fits (by omega) (by rw [hs2]; exact hb1))
      have hge := grownCap_ge w (k + m) k e
      have hcm : grownCap w (k + m) k e ≤ maxLen := grownCap_le_maxLen w (k + m) k e (by simp only [maxLen]; omega)
      refine y_value hX ho hd (v := .slice (some ⟨w.heap.size, 0, none⟩) (k + m) (grownCap w (k + m) k e)) (w' := w.drew.alloc (.cells (xs.toArray ++ news.toArray ++ Builtin.zeroCells i'.zero.cells (grownCap w (k + m) k e - (k + m))) e)) (by simp [execOp, hop, resolve, invoke, builtin, hX.ev hs, hX.ev hx, hrun]) ?_ (h (some ⟨w.heap.size, 0, none⟩) (grownCap w (k + m) k e))
      have hd1 := hX.sh.drew
      have ha := hd1.alloc (.cells (xs.toArray ++ news.toArray ++ Builtin.zeroCells i'.zero.cells (grownCap w (k + m) k e - (k + m))) e)
      have hp := List.pairwise_cons.1 ha.apart
      refine ⟨ha.below, ha.base, fun ck hck => ?_, List.Pairwise.cons (fun ck hck q e' => hp.1 ck hck q (by simpa [Ck.at] using e')) hp.2⟩
      rcases List.mem_cons.1 hck with rfl | hck
      · refine ⟨hlen, .inr ⟨w.heap.size, _, (0, 0), rfl, hX.sh.fresh, heap_alloc_new w.drew _, .inl rfl, hge, hcm, ?_, ?_⟩⟩
        · simp only [Array.size_append, List.size_toArray, size_zeroCells, h5, hr1.1, hr.1, ← Nat.add_mul]
          congr 1
          omega
        · simp only [Array.toList_append, List.append_assoc]
          rw [← List.append_assoc, ← hlen]
          exact List.take_left
      · exact ha.ok ck (List.mem_cons_of_mem _ hck)
end
section
variable {X : Cx} {M : Bool} {n : Nat} {r : Option Nat} {st : ASt} {Q : Exit → ASt → Prop} {ops rest : List Oper} {o : Oper} {d : Nat}
/-- append to a frozen slice without room. -/
theorem al_appendL (hX : X.tt.ok X.P) {t e : TypeId} {x y : Operand} {g1 g2 : Bool} {sy : SA} {sz bts c : Nat} {ge g : GTy} {l l2 : List g.D} {te : TE} {ds : TypeDesc} {zz : Value} (hop : o.op = .call ⟨.builtin .append, ⟨[x, y]⟩, ⟨[t, t]⟩⟩) (ho : o.guard = none ∧ o.dst = some d) (hd : Nat.blt d n = true)
    (ht : X.tt.find t = some te) (hte : te.ti.desc = .slice e) (he : X.tt.find e = some ⟨⟨ds, sz, bts, zz⟩, some ge⟩) (hx : ae X st.L x = some (g1, .c (.lst g l (some c)))) (hg : g1 = true) (hy : ae X st.L y = some (g2, sy)) (hg' : g2 = true)
    (hsz : Nat.beq g.size sz = true) (hsrc : srcL st g sy = some l2) (hc : fitB bts (l.length + l2.length) = true) (hcl : decide (c = l.length) = true)
    (hnext : AL X M n r ops rest ⟨(d, .c (.sl d)) :: subL d .dead st.L, (d, .lrow e g (l ++ l2)) :: delH d .dead st.H⟩ Q) : AL X M n r ops (o :: rest) st Q := by
  rintro R W Bi a w ⟨ks, env, B, w0, H, hM, h⟩
  obtain ⟨vx, hvx, A, c', xs, rfl, q1, q2, hcap, hfl, hrb⟩ := h.ev hx hg
  obtain ⟨vy, hvy, hry⟩ := h.ev hy hg'
  have e1 := hcap c rfl
  have e2 := of_decide_eq_true hcl
  have e3 : c' = l.length := e1.trans e2
  rw [e3] at hvx q2
  obtain ⟨hg1, hg2, hg3⟩ := (TT.get hX he).g ge rfl
  obtain ⟨T, hT, h1, h4⟩ := tab2 (TT.get hX ht).ti (TT.get hX he).ti
  dsimp only at hg1 hg2 h4
  have hzs : zz.cells.size = sz := by
    have : zz.cells.toList.length = sz := by rw [hg2, ← hg1]; exact FR.length (FR.zeros (B := B) (w := w0) ge)
    simpa using this
  have hsz' := Nat.eq_of_beq_eq_true hsz
  simp only [fitB, Bool.and_eq_true, decide_eq_true_eq] at hc
  obtain ⟨A2, c2, xs2, rfl, hfl2, hR2⟩ := srcL_ok h hsrc hry
  have hR1 := hrb.old h.sh
  rw [hsz'] at hR1 hR2
  refine xl_cons (y_append_full h.sym hop ho hd hT h1 hte h4 (by rw [← hg1]; exact Nat.ble_eq_true_of_le hg3) hzs hvx hvy hR1 hR2 (Flat.ones (fun _ _ => FR.ones) hfl2) hc.1 hc.2 (fun hm a' w' hY => ?_) fun A' c' a' w' hY => ?_)
  · have hl2 : l2 = [] := List.eq_nil_of_length_eq_zero hm
    subst hl2
    obtain ⟨H', _, h8⟩ := h.newBlk (d := d) hd (l := .row A l.length (l ++ []).length) (c := .row none 0 e g.size 0 []) (blk := .lrow e g (l ++ [])) (sv := .c (.sl d)) (v := .slice A l.length l.length) (hY.sh.nilRow e g.size) ⟨A, l.length, upd_self, .inr ⟨rfl, by simp, q2, xs, by rw [List.append_nil]; exact hfl, by rw [List.append_nil]; exact hrb⟩⟩ ⟨A, l.length, _, upd_self, by simp⟩ hY.st
    exact hnext R W Bi a' w' ⟨ks, _, B, w0, H', hM, h8⟩
  · obtain ⟨H', _, h8⟩ := h.newBlk (d := d) hd (l := .row A' c' (l ++ l2).length) (c := .row A' c' e g.size (l ++ l2).length (xs ++ xs2)) (blk := .lrow e g (l ++ l2)) (sv := .c (.sl d)) (v := .slice A' (l.length + l2.length) c') (by have := hY.sh; rw [← hsz'] at this; rw [List.length_append]; exact this) ⟨A', c', upd_self, .inl ⟨_, rfl, hfl.append hfl2⟩⟩ ⟨A', c', _, upd_self, by rw [List.length_append]⟩ hY.st
    exact hnext R W Bi a' w' ⟨ks, _, B, w0, H', hM, h8⟩
/-- An operation that changes the state, whichever way it is reached. -/
def StepOk (X : Cx) (n : Nat) (o : Oper) (st st' : ASt) : Prop := ∀ (R : Nat → Prop) (W : World) (Bi : Bk) (ks : List Nat) (env : Nat → Loc) (B : Nat → Prop) (w0 : World) (H : List Ck) (a : Act) (w : World), AI X R W Bi n ks env B w0 H st a w → ∀ (KK : Act → World → Prop) (l : List Oper), (∀ a' w' env' H', AI X R W Bi n ks env' B w0 H' st' a' w' → KK a' w') → XO X.P l.toArray o KK a w
theorem al_sk {st' : ASt} (hp : StepOk X n o st st') (hnext : AL X M n r ops rest st' Q) : AL X M n r ops (o :: rest) st Q := by
  rintro R W Bi a w ⟨ks, env, B, w0, H, hM, hA⟩
  exact xl_cons (hp R W Bi ks env B w0 H a w hA _ _ fun a' w' env' H' hA' => hnext R W Bi a' w' ⟨ks, env', B, w0, H', hM, hA'⟩)
theorem ado_sk {st' : ASt} {E : List Nat} {ds : DS} {fuel i : Nat} {l' : Array Bool} (hi : nth ops i = some o) (hp : StepOk X n o st st') (hE : E.elem i = false) (hl : ds.listed.setIfInBounds i true = l')
    (h : AD X M n ops E fuel ⟨l', false, false, ds.nocall⟩ st' Q) : ADo X M n ops E fuel ds st Q i := by
  intro R W Bi B0 w00 CS F ks env B w0 H a w hM hA hD
  refine ⟨o, nth_arr hi, hp R W Bi ks env B w0 H a w hA _ _ fun a' w' env' H' hA' => ?_⟩
  have hD' := hD.lost (H' := H') (l := l')
  rw [hl]
  exact ⟨⟨fun he => (by rw [hE] at he; cases he), hD'.F hA'⟩, h R W Bi B0 w00 CS F ks env' B w0 H' a' w' hM hA' hD'⟩
theorem sk_appendR (hX : X.tt.ok X.P) {t e : TypeId} {x y : Operand} {g1 g2 : Bool} {sy : SA} {id sz bts : Nat} {ge g : GTy} {l l2 : List g.D} {te : TE} {ds : TypeDesc} {zz : Value} (hop : o.op = .call ⟨.builtin .append, ⟨[x, y]⟩, ⟨[t, t]⟩⟩) (ho : o.guard = none ∧ o.dst = some d) (hd : (Nat.blt d n && Nat.blt id fixBase) = true)
    (ht : X.tt.find t = some te) (hte : te.ti.desc = .slice e) (he : X.tt.find e = some ⟨⟨ds, sz, bts, zz⟩, some ge⟩) (hx : ae X st.L x = some (g1, .c (.sl id))) (hg : g1 = true) (hy : ae X st.L y = some (g2, sy)) (hg' : g2 = true)
    (hlk : lk st.H id = some (.lrow e g l)) (hsz : Nat.beq g.size sz = true) (hsrc : srcL st g sy = some l2) (hc : fitB bts (l.length + l2.length) = true) : StepOk X n o st ⟨(d, .c (.sl id)) :: subL id .dead st.L, (id, .lrow e g (l ++ l2)) :: delH id .dead st.H⟩ := by
  intro R W Bi ks env B w0 H a w h KK lo hnext
  obtain ⟨vx, hvx, hrx⟩ := h.ev hx hg
  obtain ⟨vy, hvy, hry⟩ := h.ev hy hg'
  obtain ⟨hg1, hg2, hg3⟩ := (TT.get hX he).g ge rfl
  obtain ⟨T, hT, h1, h4⟩ := tab2 (TT.get hX ht).ti (TT.get hX he).ti
  dsimp only at hg1 hg2 h4
  have hzs : zz.cells.size = sz := by
    have : zz.cells.toList.length = sz := by rw [hg2, ← hg1]; exact FR.length (FR.zeros (B := B) (w := w0) ge)
    simpa using this
  simp only [Bool.and_eq_true] at hd
  obtain ⟨hd, hfix⟩ := hd
  have hsz' := Nat.eq_of_beq_eq_true hsz
  simp only [fitB, Bool.and_eq_true, decide_eq_true_eq] at hc
  obtain ⟨A2, c2, xs2, rfl, hfl2, hR2⟩ := srcL_ok h hsrc hry
  obtain ⟨A, c, m, hen, rfl⟩ := hrx
  obtain ⟨ck, K, ⟨A', k', hen', hor⟩, hfoc, hturn⟩ := h.turnRow (d := d) (b' := .lrow e g (l ++ l2)) hlk (fun q hp => by
    obtain ⟨_, h5, h6⟩ := h.pin _ _ hp
    rw [hen] at h5
    rcases h6 with ⟨b, h6⟩ | h6
    · rw [← h5] at h6; cases h6
    · have := lt_of_blt hfix; omega)
  rw [hen] at hen'
  cases hen'
  have hp4 : Nat.blt 0 sz = true := by rw [← hg1]; exact Nat.ble_eq_true_of_le hg3
  rcases hor with ⟨xs, rfl, hfl⟩ | ⟨rfl, rfl, q2, xs, hfl, hrb⟩
  · rw [hsz'] at hfoc hR2
    refine y_append h.sym hop ho hd hT h1 hte h4 hp4 hzs hvx hvy hfoc hR2 (Flat.ones (fun _ _ => FR.ones) hfl2) hc.1 hc.2 fun A' c' a' w' hY => ?_
    obtain ⟨H', _, h8⟩ := hturn (.row A' c' (l ++ l2).length) (.row A' c' e g.size (l ++ l2).length (xs ++ xs2)) a' w' (.c (.sl id)) _ ⟨A', c', upd_self, .inl ⟨_, rfl, hfl.append hfl2⟩⟩ ⟨A', c', _, upd_self, by rw [List.length_append]⟩ (by rw [hsz', List.length_append]; exact hY.sh) hY.st
    exact hnext a' w' _ H' h8
  · have hR1 := hrb.old h.sh
    rw [hsz'] at hR1 hR2
    refine y_append_full h.sym hop ho hd hT h1 hte h4 hp4 hzs hvx hvy hR1 hR2 (Flat.ones (fun _ _ => FR.ones) hfl2) hc.1 hc.2 (fun hm a' w' hY => ?_) fun A' c' a' w' hY => ?_
    · have hl2 : l2 = [] := List.eq_nil_of_length_eq_zero hm
      subst hl2
      obtain ⟨Y, Z, e5, e6⟩ := hfoc
      obtain ⟨H', _, h8⟩ := hturn (.row A l.length (l ++ []).length) (.row none 0 e g.size 0 []) a' w' (.c (.sl id)) (.slice A l.length l.length) ⟨A, l.length, upd_self, .inr ⟨rfl, by simp, q2, xs, by rw [List.append_nil]; exact hfl, by rw [List.append_nil]; exact hrb⟩⟩ ⟨A, l.length, _, upd_self, by simp⟩ (by rw [e6]; dsimp only; rw [← e5]; exact hY.sh) hY.st
      exact hnext a' w' _ H' h8
    · obtain ⟨Y, Z, e5, e6⟩ := hfoc
      obtain ⟨H', _, h8⟩ := hturn (.row A' c' (l ++ l2).length) (.row A' c' e g.size (l ++ l2).length (xs ++ xs2)) a' w' (.c (.sl id)) (.slice A' (l.length + l2.length) c') ⟨A', c', upd_self, .inl ⟨_, rfl, hfl.append hfl2⟩⟩ ⟨A', c', _, upd_self, by rw [List.length_append]⟩ (by
        have h9 := hY.sh
        rw [e5] at h9
        rw [e6]
        dsimp only
        have hp : (Ck.row A' c' e sz (l.length + l2.length) (xs ++ xs2) :: (Y ++ Ck.row none 0 e g.size 0 [] :: Z)).Perm (Ck.row none 0 e g.size 0 [] :: (Y ++ Ck.row A' c' e sz (l.length + l2.length) (xs ++ xs2) :: Z)) := by
          refine (List.Perm.cons _ List.perm_middle).trans ?_
          refine (List.Perm.swap _ _ _).trans (List.Perm.cons _ List.perm_middle.symm)
        have h10 := (h9.perm hp).weak (List.sublist_cons_self _ _)
        rw [hsz', List.length_append]
        exact h10) hY.st
      exact hnext a' w' _ H' h8
theorem al_appendR (hX : X.tt.ok X.P) {t e : TypeId} {x y : Operand} {g1 g2 : Bool} {sy : SA} {id sz bts : Nat} {ge g : GTy} {l l2 : List g.D} {te : TE} {ds : TypeDesc} {zz : Value} (hop : o.op = .call ⟨.builtin .append, ⟨[x, y]⟩, ⟨[t, t]⟩⟩) (ho : o.guard = none ∧ o.dst = some d) (hd : (Nat.blt d n && Nat.blt id fixBase) = true)
    (ht : X.tt.find t = some te) (hte : te.ti.desc = .slice e) (he : X.tt.find e = some ⟨⟨ds, sz, bts, zz⟩, some ge⟩) (hx : ae X st.L x = some (g1, .c (.sl id))) (hg : g1 = true) (hy : ae X st.L y = some (g2, sy)) (hg' : g2 = true)
    (hlk : lk st.H id = some (.lrow e g l)) (hsz : Nat.beq g.size sz = true) (hsrc : srcL st g sy = some l2) (hc : fitB bts (l.length + l2.length) = true)
    (hnext : AL X M n r ops rest ⟨(d, .c (.sl id)) :: subL id .dead st.L, (id, .lrow e g (l ++ l2)) :: delH id .dead st.H⟩ Q) : AL X M n r ops (o :: rest) st Q :=
  al_sk (sk_appendR hX hop ho hd ht hte he hx hg hy hg' hlk hsz hsrc hc) hnext
end
section
variable {X : Cx} {n : Nat} {st : ASt}
/-- A row of one's own is such a row. -/
theorem Wk.row2l (id : Nat) {t : TypeId} {g : GTy} {l : List g.D} {cap : Option Nat} (hs : lk st.H id = some (.row t g l cap)) : Wk X n st ⟨st.L, putH id (.lrow t g l) st.H⟩ := fun R W Bi M a w ⟨ks, env, B, w0, H, hM, h⟩ => by
  obtain ⟨ck, K, ⟨A, k, xs, he, e, hfl, _⟩, ⟨Y, Z, h1, h2⟩, h3⟩ := h.setBlk (b' := .lrow t g l) hs
  obtain ⟨H', h4⟩ := h3 ck a w ⟨A, k, he, .inl ⟨xs, e, hfl⟩⟩ (by rw [h2]; dsimp only; rw [← h1]; exact h.sh) h.stt
  exact ⟨ks, env, B, w0, H', hM, h4⟩
def frzL (id : Nat) (st : ASt) : Option ASt :=
  match lk st.H id with
  | some (.lrow _ g l) => some ⟨subL id (.lst g l none) st.L, delH id (.lst g l none) st.H⟩
  | _ => none
theorem lk_putH {b b2 : Blk} {id : Nat} : ∀ {l : Hp}, lk l id = some b → lk (putH id b2 l) id = some b2
  | [], h => by cases h
  | (k, b') :: r, h => by
    rw [lk_cons] at h
    unfold putH
    split
    · rename_i hk
      rw [lk_cons, if_pos (Nat.eq_of_beq_eq_true hk).symm]
    · rename_i hk
      have hne : ¬ id = k := fun e => by rw [e, Nat.beq_refl] at hk; cases hk
      rw [if_neg hne] at h
      rw [lk_cons, if_neg hne]
      exact lk_putH h
theorem delH_putH {b : Blk} {id : Nat} {z : SC} : ∀ {l : Hp} {b2 : Blk}, lk l id = some b2 → delH id z (putH id b l) = delH id z l
  | [], _, h => by cases h
  | (k, b') :: r, b2, h => by
    rw [lk_cons] at h
    unfold putH
    cases hk : Nat.beq k id with
    | true => simp only [delH, hk]
    | false =>
      have hne : ¬ id = k := fun e => by rw [e, Nat.beq_refl] at hk; cases hk
      rw [if_neg hne] at h
      simp only [delH, hk, delH_putH h]
/-- Such a row is frozen. -/
theorem Wk.frzL {id : Nat} {st' : ASt} (hf : frzL id st = some st') : Wk X n st st' := fun R W Bi M a w ⟨ks, env, B, w0, H, hM, h⟩ => by
  unfold Go.Proofs.YtihcolehefloeaaDoor.frzL at hf
  split at hf
  · rename_i t g l hlk
    cases hf
    obtain ⟨ck, K, ⟨A, k, he, hor⟩, ⟨Y, Z, e1, e2⟩, h5⟩ := h.setBlk (b' := .row t g l none) hlk
    rcases hor with ⟨xs, rfl, hfl⟩ | ⟨rfl, rfl, q2, xs, hfl, hrb⟩
    · obtain ⟨H', h6⟩ := h5 _ a w ⟨A, k, xs, he, rfl, hfl, fun _ hq => by cases hq⟩ (by rw [e2]; dsimp only; rw [← e1]; exact h.sh) h.stt
      have hfz : Go.Proofs.YtihcolehefloeaaDoor.frz id ⟨st.L, putH id (.row t g l none) st.H⟩ = some ⟨subL id (.lst g l none) st.L, delH id (.lst g l none) st.H⟩ := by
        unfold Go.Proofs.YtihcolehefloeaaDoor.frz
        dsimp only
        rw [lk_putH hlk]
        dsimp only
        rw [delH_putH hlk]
      exact Wk.frz (X := X) (n := n) hfz R W Bi M a w ⟨ks, env, B, w0, H', hM, h6⟩
    · have hcr : ∀ v, CR env B w0 (.sl id) v → CR env B w0 (.lst g l none) v := by
        rintro v ⟨A', c', m, he', rfl⟩
        rw [he] at he'
        cases he'
        exact ⟨A, l.length, xs, rfl, Nat.le_refl _, q2, (fun _ hq => by cases hq), hfl, hrb⟩
      obtain ⟨H2, h1, h2⟩ := h.heap.del (id := id) (env' := env) (fun _ _ => rfl) hcr
      refine ⟨ks, env, B, w0, H2, hM, h.size, h.defs, fun q u hu => ?_, h2, h.sh.weak (h1.append_right _), h.sub, h.new, h.pin, h.base, h.glob⟩
      obtain ⟨u0, hu0, rfl⟩ := lk_subL hu
      obtain ⟨u', h6, h7⟩ := h.has q u0 hu0
      exact ⟨u', h6, VR.sub (fun _ _ => rfl) hcr h7⟩
  · cases hf
end
end Go.Proofs.YtihcolehefloeaaDoor

/- Operations that give a value, by lemmas of their own: also in regions that draw. -/
namespace Go.Proofs.YtihcolehefloeaaDoor
open Go.RowKit
section
variable {X : Cx} {M : Bool} {n : Nat} {r : Option Nat} {st : ASt} {Q : Exit → ASt → Prop} {ops rest : List Oper} {o : Oper} {d : Nat} {sa : SA}
theorem ado_pk {E : List Nat} {ds : DS} {fuel i : Nat} {l' : Array Bool} (hi : nth ops i = some o) (hp : PureOk X st o sa) (ho : o.guard = none ∧ o.dst = some d) (hd : Nat.blt d n = true) (hE : E.elem i = false) (hl : ds.listed.setIfInBounds i true = l')
    (h : AD X M n ops E fuel ⟨l', false, false, ds.nocall⟩ ⟨(d, .a sa) :: st.L, st.H⟩ Q) : ADo X M n ops E fuel ds st Q i := by
  intro R W Bi B0 w00 CS F ks env B w0 H a w hM hA hD
  obtain ⟨v, h1, h2⟩ := hp hA
  refine ⟨o, nth_arr hi, x_value hA.stt ho.1 ho.2 (lt_of_blt hd) (v := v) (w' := w) (h2 w fun _ => hA.sh) fun a' hS => ?_⟩
  have hA' := hA.set (sv := .a sa) h1 hS
  have hD' := hD.lost (H' := H) (l := l')
  rw [hl]
  exact ⟨⟨fun he => (by rw [hE] at he; cases he), hD'.F hA'⟩, h R W Bi B0 w00 CS F ks env B w0 H a' w hM hA' hD'⟩
theorem pk_loadH (hX : X.tt.ok X.P) {t T : TypeId} {te : TE} {x : Operand} {id d2 i : Nat} {g : GTy} {l : List (List g.D)} {cap : Option Nat} {g1 : Bool} (hop : o.op = .load t x)
    (ht : X.tt.find t = some te) (hag : isAggD te.ti.desc = false) (hx : ae X st.L x = some (g1, .c (.elt id 1 i 0))) (hg1 : g1 = true) (hlk : lk st.H id = some (.hrow T g l cap i d2)) : PureOk X st o (.c (.sl d2)) := by
  intro R W Bi n ks env B w0 H a w1 hA
  obtain ⟨vx, h1, b, c, m, he, rfl⟩ := hA.ev hx hg1
  obtain ⟨ck, K, ⟨A, k, ys, A', c', m', he', rfl, hfl, hi, he2, _⟩, hf⟩ := hA.heap.foc hlk
  rw [he] at he'
  cases he'
  have hyl := FR.flat_length hfl
  have hyl' : ys.length = l.length := by rw [hyl]; show l.length * 1 = _; omega
  refine ⟨.slice A' m' c', ⟨A', c', m', he2, rfl⟩, fun w hs => ?_⟩
  have hown : Owns w (fun k => R k ∨ B k) T 1 (some ⟨b, 0, none⟩) c l.length (ys.set i (.slice A' m' c')) := (hs (by rw [hop]; rfl)).ok _ hf.more.mem
  have hcell : w.cell? ⟨b, i * 1 + 0, none⟩ = some (.slice A' m' c') := by
    rw [hown.cells rfl _ (by omega)]
    simp [List.getElem?_set, hyl', hi]
  exact run_load1 hA.stt hop (TT.get hX ht).ti hag h1 hcell
end
end Go.Proofs.YtihcolehefloeaaDoor

/- A row of one's own that a callee reads as a list. -/
namespace Go.Proofs.YtihcolehefloeaaDoor
open Go.RowKit
section
variable {env : Nat → Loc} {B B' : Nat → Prop} {w w' : World}
end
end Go.Proofs.YtihcolehefloeaaDoor

/- slices.Grow at a nil slice: a row of one's own that is empty. -/
namespace Go.Proofs
open Go.Shelf
def Tryd.laysGrow_ren : Go.Shelf.Ren := ⟨fun | 4 => 64 | n => n, fun | 22 => 30 | 25 => 39 | 3 => 3 | 4 => 4 | 0 => 0 | 9 => 9 | 20 => 20 | n => n, fun | n => n⟩
theorem Tryd.laysGrow : Go.Proofs.Lays8.n4 Tryd.prog Tryd.laysGrow_ren := {
  mixed := by kernel_rfl
  f4 := ⟨Tryd.f64.name, by kernel_rfl, Tryd.func64.trans (congrArg some (by kernel_rfl))⟩
  t0 := Tryd.underlying0
  a0 := Tryd.isAgg0
  z0 := Tryd.sizeOf0
  v0 := Tryd.zeroValue0
  t3 := Tryd.underlying3
  a3 := Tryd.isAgg3
  z3 := Tryd.sizeOf3
  v3 := Tryd.zeroValue3
  t4 := Tryd.underlying4
  a4 := Tryd.isAgg4
  z4 := Tryd.sizeOf4
  v4 := Tryd.zeroValue4
  t9 := Tryd.underlying9
  a9 := Tryd.isAgg9
  z9 := Tryd.sizeOf9
  v9 := Tryd.zeroValue9
  t20 := Tryd.underlying20
  a20 := Tryd.isAgg20
  z20 := Tryd.sizeOf20
  v20 := Tryd.zeroValue20
  t22 := Tryd.underlying30
  a22 := Tryd.isAgg30
  z22 := Tryd.sizeOf30
  v22 := Tryd.zeroValue30 }
end Go.Proofs
namespace Go.Proofs.YtihcolehefloeaaDoor
open Go.RowKit
def m_growN (n : Int) : Option (List (Int × Int)) := gd (decide (0 ≤ n) && decide (n ≤ 1000000)) <| some []
theorem w_growN (n : Int) (r : List (Int × Int)) (hr : m_growN n = some r) : AC cx 64 [.c (.val (.slice none 0 0)), .c (.val (.int .i64 n))] [] (fun sv h => sv = .c (.sl 5) ∧ h = [(5, .row 39 (.pair (.int .u8) (.int .i64)) r none)]) := by
  obtain ⟨hg0, hr⟩ := gd_some hr
  simp only [Bool.and_eq_true, decide_eq_true_eq] at hg0
  obtain rfl := Option.some.inj hr
  obtain ⟨m, rfl⟩ : ∃ m : Nat, n = (m : Int) := ⟨n.toNat, by omega⟩
  intro B w0 env vs H W hg ha hh hs
  have e0 : H = [] := hh
  subst e0
  obtain ⟨v, r2, rfl, rfl, v2, r3, rfl, rfl, hr3⟩ := ha
  have e1 : r3 = [] := hr3
  subst e1
  have fin : ∀ (A : Option Addr) (k : Nat) (w' : World), KO (Rest W []) W w' → Owns w' (fun j => Rest W [] j ∨ B j) 39 2 A k 0 [] →
      ACpost cx env B [] W (fun sv h => sv = .c (.sl 5) ∧ h = [(5, .row 39 (.pair (.int .u8) (.int .i64)) [] none)]) (.slice A 0 k) w' := fun A k w' hko ho => by
    let env2 : Nat → Loc := fun j => match Nat.beq j 5 with
      | true => .row A k 0
      | false => env j
    have hpin : ∀ id l, (pinBase ≤ id ∧ ∃ b, l = .blk b) ∨ fixBase ≤ id → env id = l → env2 id = l := fun id l h he => by
      have : Nat.beq id 5 = false := by
        cases hb : Nat.beq id 5 with
        | false => rfl
        | true =>
          have := Nat.eq_of_beq_eq_true hb
          subst this
          rcases h with ⟨h, _⟩ | h
          · exact absurd h (by decide)
          · exact absurd h (by decide)
      show (match Nat.beq id 5 with | true => _ | false => env id) = l
      rw [this]
      exact he
    refine ⟨env2, B, w', [Ck.row A k 39 2 0 []], .c (.sl 5), _, ⟨rfl, rfl⟩, fun _ h => h, fun _ h => .inl h, hko, ⟨A, k, _, rfl, rfl⟩, ⟨_, _, rfl, ⟨A, k, _, rfl, rfl, rfl, fun _ h => by cases h⟩, rfl⟩, ?_, hpin⟩
    refine ⟨KO.refl _ _, fun j hj => Nat.lt_of_lt_of_le (hj.elim (fun h => h.1) (hs.base j)) hko.size, fun c hc => ?_, List.pairwise_singleton _ _⟩
    cases List.mem_singleton.1 hc
    exact ho
  by_cases hm : m = 0
  · subst hm
    refine Calls.mono (Any8.slices_Grow_room Tryd.laysGrow none 0 0 0 W (Nat.le_refl _) (by decide) (by decide) (by decide)) ?_
    rintro e w' ⟨rfl, rfl⟩
    exact ⟨_, rfl, fin none 0 _ (KO.refl _ _) ⟨rfl, .inl ⟨rfl, rfl, rfl⟩⟩⟩
  · obtain ⟨i0, hi0, hs1, hs2, hs3⟩ := TI.info (TT.get (t := 39) tt_ok rfl).ti
    have h1 : i0.size = 2 := hs1
    have h2 : i0.bytes = 16 := hs2
    have hge := grownCap_ge W (0 + m) 0 39
    have hcm : grownCap W (0 + m) 0 39 ≤ maxLen := grownCap_le_maxLen W (0 + m) 0 39 (by simp only [maxLen]; omega)
    have hz : Array.size (Value.cells te39.ti.zero) = 2 := by kernel_rfl
    refine Calls.mono (Any8.slices_Grow_grow Tryd.laysGrow i0 _ hi0 hs3 (by omega) none 0 0 m [] W (Nat.le_refl _) (by omega) (by rw [h2]; omega) (by omega) (by rw [Nat.zero_mul]; rfl) (fun _ => rfl) (fun a ha => by cases ha)) ?_
    rintro e w' ⟨rfl, rfl⟩
    refine ⟨_, rfl, fin _ _ _ ⟨rfl, rfl, rfl, by simp, fun k hk => Below.heap_alloc W.drew _ k (hk.1)⟩ ⟨rfl, .inr ⟨W.heap.size, _, (0, 0), rfl, fun h => ?_, heap_alloc_new W.drew _, .inl rfl, Nat.zero_le _, hcm, ?_, rfl⟩⟩⟩
    · exact absurd (h.elim (fun h => h.1) (hs.base _)) (Nat.lt_irrefl _)
    · simp only [Array.size_append, size_zeroCells]
      erw [hz]
      simp only [Nat.zero_add] at hge
      have he : Tryd.laysGrow_ren.t 25 = 39 := rfl
      simp [he]
      omega
end Go.Proofs.YtihcolehefloeaaDoor

/- A frozen slice without room, in a cell, is a row to which can be appended. -/
namespace Go.Proofs.YtihcolehefloeaaDoor
open Go.RowKit
def setCs (p : Nat) (c : SC) : List SC → List SC
  | [] => []
  | x :: r => match p with
    | 0 => c :: r
    | q + 1 => x :: setCs q c r
/-- Cell p of block k. -/
def setCl (k p : Nat) (c : SC) : Hp → Hp
  | [] => []
  | (j, b) :: r => match Nat.beq j k with
    | true => (j, match b with
      | .cells t cs => .cells t (setCs p c cs)
      | b => b) :: r
    | false => (j, b) :: setCl k p c r
theorem CsR.at {env : Nat → Loc} {B : Nat → Prop} {w : World} : ∀ {p : Nat} {cs : List SC} {vs : List Value} {c : SC}, CsR env B w cs vs → cs[p]? = some c → ∃ v, vs[p]? = some v ∧ CR env B w c v
  | _, [], _, _, _, hp => by cases hp
  | 0, x :: cs, _, c, ⟨v, r, e, h1, _⟩, hp => by
    cases hp
    exact ⟨v, by rw [e]; rfl, h1⟩
  | p + 1, x :: cs, _, c, ⟨v, r, e, _, h2⟩, hp => by
    obtain ⟨u, h3, h4⟩ := CsR.at (p := p) (cs := cs) h2 (by simpa using hp)
    exact ⟨u, by rw [e]; simpa using h3, h4⟩
theorem CsR.setAt {env : Nat → Loc} {B : Nat → Prop} {w : World} {c : SC} : ∀ {p : Nat} {cs : List SC} {vs : List Value} {v : Value}, CsR env B w cs vs → vs[p]? = some v → CR env B w c v → CsR env B w (setCs p c cs) vs
  | 0, [], _, _, h, _, _ => h
  | _ + 1, [], _, _, h, _, _ => h
  | 0, x :: cs, _, v, ⟨u, r, e, _, h2⟩, hp, hc => by
    rw [e] at hp
    cases hp
    exact ⟨_, r, e, hc, h2⟩
  | p + 1, x :: cs, _, v, ⟨u, r, e, h1, h2⟩, hp, hc => by
    rw [e] at hp
    exact ⟨u, r, e, h1, CsR.setAt (p := p) h2 (by simpa using hp) hc⟩
section
variable {env : Nat → Loc} {B : Nat → Prop} {w : World}
theorem HR.lfull {k p id : Nat} {t : TypeId} {cs : List SC} {g : GTy} {li : List g.D} {c : Nat} (hk : Nat.beq k id = false) (hc : c = li.length) : ∀ {l : Hp} {H : List Ck}, HR env B w l H → lk l k = some (.cells t cs) → cs[p]? = some (.lst g li (some c)) →
    ∃ A xs, li.length ≤ maxLen ∧ Flat (FR B w g) li xs ∧ RB B w A li.length g.size xs ∧ ∀ env', (∀ j, j ≠ id → env' j = env j) → env' id = .row A li.length li.length → ∃ H', H'.Sublist H ∧ HR env' B w (setCl k p (.sl id) (delH id .dead l)) H'
  | [], _, _, hl, _ => by cases hl
  | (j, b) :: l, _, ⟨ck, H', e, h1, h2⟩, hl, hp => by
    rw [lk_cons] at hl
    subst e
    split at hl
    · rename_i e
      subst e
      cases hl
      obtain ⟨bb, vs, q1, q2, q3⟩ := h1
      obtain ⟨v, q4, A, c', xs, q5, q6, q7, q8, q9, q10⟩ := CsR.at q3 hp
      have ec : c' = li.length := (q8 c rfl).trans hc
      subst ec
      refine ⟨A, xs, q7, q9, q10, fun env' he hid => ?_⟩
      obtain ⟨H2, hs, h3⟩ := HR.del (z := .dead) he (fun _ _ => trivial) h2
      have hb : BR env' B w k ((Blk.cells t cs).sub id .dead) ck := BR.sub (z := .dead) he (fun _ _ => trivial) (Nat.ne_of_beq_eq_false hk) (b := .cells t cs) ⟨bb, vs, q1, q2, q3⟩
      obtain ⟨bb', vs', r1, r2, r3⟩ := hb
      have hvs : vs' = vs := by
        rw [q2] at r2
        cases r2
        rfl
      subst hvs
      refine ⟨ck :: H2, hs.cons_cons _, ?_⟩
      unfold delH
      rw [hk]
      show HR env' B w (setCl k p (.sl id) ((k, (Blk.cells t cs).sub id .dead) :: delH id .dead l)) (ck :: H2)
      unfold setCl
      rw [Nat.beq_refl]
      exact ⟨ck, H2, rfl, ⟨bb', vs', r1, r2, CsR.setAt r3 q4 ⟨A, _, _, hid, q5⟩⟩, h3⟩
    · rename_i hne
      obtain ⟨A, xs, q1, q2, q3, q4⟩ := HR.lfull hk hc h2 hl hp
      refine ⟨A, xs, q1, q2, q3, fun env' he hid => ?_⟩
      obtain ⟨H2, hs, h3⟩ := q4 env' he hid
      unfold delH
      split
      · exact ⟨H2, hs.cons _, h3⟩
      · rename_i hj
        refine ⟨ck :: H2, hs.cons_cons _, ?_⟩
        unfold setCl
        have hjk : Nat.beq j k = false := by
          cases hb : Nat.beq j k with
          | false => rfl
          | true => exact absurd (Nat.eq_of_beq_eq_true hb).symm hne
        rw [hjk]
        exact ⟨ck, H2, rfl, BR.sub (z := .dead) he (fun _ _ => trivial) (Nat.ne_of_beq_eq_false hj) h1, h3⟩
end
/-- A frozen slice without room, in cell p of block k, is such a row. -/
theorem Wk.lfullC {X : Cx} {n : Nat} {st : ASt} (k p id : Nat) (t : TypeId) (hid : Nat.blt id n = true) (hki : Nat.beq k id = false) {T : TypeId} {cs : List SC} {g : GTy} {l : List g.D} {c : Nat} (hs : lk st.H k = some (.cells T cs)) (hp : cs[p]? = some (.lst g l (some c))) (hc : c = l.length) :
    Wk X n st ⟨subL id .dead st.L, (id, .lrow t g l) :: setCl k p (.sl id) (delH id .dead st.H)⟩ := fun R W Bi M a w ⟨ks, env, B, w0, H, hM, h⟩ => by
  obtain ⟨A, xs, q2, hfl, hrb, hq⟩ := HR.lfull hki hc h.heap hs hp
  obtain ⟨H2, h1, h2⟩ := hq (upd env id (.row A l.length l.length)) upd_other upd_self
  refine ⟨ks, upd env id (.row A l.length l.length), B, w0, .row none 0 t g.size 0 [] :: H2, hM, h.size, h.defs, fun q u hu => ?_, ⟨_, H2, rfl, ⟨A, _, upd_self, .inr ⟨rfl, rfl, q2, xs, hfl, hrb⟩⟩, h2⟩, (h.sh.nilRow t g.size).weak ((h1.append_right _).cons_cons _), h.sub, h.new, pin_upd h.pin (fun q hp => by have h1 := (h.pin _ _ hp).1; have h2 := lt_of_blt hid; omega), h.base, h.glob⟩
  obtain ⟨u0, hu0, rfl⟩ := lk_subL hu
  obtain ⟨u', h6, h7⟩ := h.has q u0 hu0
  exact ⟨u', h6, VR.sub (z := .dead) upd_other (fun _ _ => trivial) h7⟩
end Go.Proofs.YtihcolehefloeaaDoor

/- shifts.planner. -/
namespace Go.Proofs.YtihcolehefloeaaDoor
open Go.RowKit
/-- An operation: kind, direction, needle (bed, number), yarn, rack. -/
abbrev g3 : GTy := .pair (.int .u8) (.pair (.int .u8) (.int .u8))
abbrev gNd : GTy := .pair (.int .u8) (.int .i64)
abbrev gOp : GTy := .pair (.int .u8) (.pair (.int .u8) (.pair (.pair (.int .u8) (.int .i64)) (.pair (.int .u8) (.int .i64))))
abbrev OpT := Int × Int × (Int × Int) × Int × Int
/-- A planner: the block and the row of its operations. -/
abbrev plan (p q : Nat) (ops : List OpT) (rack : Int) : Hp := [(p, .cells 79 [.sl q, .val (.int .i64 rack)]), (q, .row 45 gOp ops none)]
theorem put_ok (ops l2 : List OpT) (rack : Int) (cap : Option Nat) (hl : ops.length + l2.length ≤ 1000000000) :
    AC cx 61 [.c (.ptr 1000000 0), .c (.sl 1000002)] [(1000000, .cells 79 [.sl 1000001, .val (.int .i64 rack)]), (1000001, .row 45 gOp ops none), (1000002, .row 45 gOp l2 cap)] (fun sv h => sv = .tup [] ∧ h = plan 1000000 1000001 (ops ++ l2) rack) := by
  refine ac_body tt_ok Tryd.func61 rfl Tryd.ntmps61 rfl rfl (res := []) rfl ?_
  refine ax_region ?_
  refine al_run tt_ok rfl (by simp only [inB, inI64, fitB, GTy.zero, Bool.and_eq_true, Bool.or_eq_true, Bool.not_eq_true', Bool.and_true, Bool.true_and, Bool.or_true, Bool.true_or, decide_eq_true_eq, decide_eq_false_iff_not, true_and, and_true]; omega) ?_
  refine ⟨_, Wk.sub (st' := ⟨[], [(1000000, _), (1000001, _)]⟩) SubL.nil (SubH.cons rfl rfl (SubH.cons rfl rfl SubH.nil)), _, _, rfl, rfl, ?_⟩
  exact ⟨rfl, rfl⟩
/-- An operation that moves the rack. -/
def rackOp (r : Int) : OpT := (3, 0, (0, 0), 0, r)
def turnOps (ops : List OpT) (rack r : Int) : List OpT := if rack = r then ops else ops ++ [rackOp r]
theorem turn_ok (ops : List OpT) (rack r : Int) (hl : ops.length ≤ 100000000) :
    AC cx 30 [.c (.ptr 1000000 0), .c (.val (.int .i64 r))] (plan 1000000 1000001 ops rack) (fun sv h => sv = .tup [] ∧ h = plan 1000000 1000001 (turnOps ops rack r) r) := by
  refine ac_body tt_ok Tryd.func30 rfl Tryd.ntmps30 rfl rfl (res := []) rfl ?_
  refine ax_seq ?_
  refine ax_region ?_
  refine al_run tt_ok rfl rfl ?_
  refine ax_cond rfl rfl (fun hc0 => ?_) (fun hc0 => ?_)
  ·
    refine ax_seq ?_
    refine ax_region ?_
    refine al_upto tt_ok rfl rfl ?_
    refine al_call [(1000000, 1000000), (1000001, 1000001), (1000002, 13)] (put_ok ops [rackOp r] rack (some 1) (by simp; omega)) rfl ⟨rfl, rfl⟩ rfl Tryd.func61 rfl rfl rfl rfl rfl rfl (PassH.cons rfl rfl rfl (PassH.cons rfl rfl rfl (PassH.cons rfl rfl rfl PassH.nil))) ?_
    rintro _ _ ⟨rfl, rfl⟩
    refine ⟨_, _, rfl, rfl, ?_⟩
    refine al_run tt_ok rfl rfl ?_
    refine ax_region ?_
    refine al_run tt_ok rfl rfl ?_
    refine ⟨_, Wk.sub (st' := ⟨[], [(1000000, _), (1000001, _)]⟩) SubL.nil (SubH.cons rfl rfl (SubH.cons rfl rfl SubH.nil)), _, _, rfl, rfl, ?_⟩
    simp at hc0
    have e : turnOps ops rack r = ops ++ [rackOp r] := if_neg hc0
    rw [e]
    exact ⟨rfl, rfl⟩
  ·
    refine ax_skip ?_
    refine ⟨_, Wk.sub (st' := ⟨[], [(1000000, _), (1000001, _)]⟩) SubL.nil (SubH.cons rfl rfl (SubH.cons rfl rfl SubH.nil)), _, _, rfl, rfl, ?_⟩
    simp at hc0
    subst hc0
    simp [turnOps]
end Go.Proofs.YtihcolehefloeaaDoor

/- shifts.planner.transfer; slices.Clip. -/
namespace Go.Proofs.YtihcolehefloeaaDoor
open Go.RowKit
def xferOp (bed k : Int) : OpT := (7, 0, (bed, k), 0, 0)
def xfers (bed r : Int) (at_ : List Int) : List OpT := at_.map fun k => xferOp bed (k - r)
theorem take_next (l : List Int) (x : Int) (h0 : 0 ≤ x) (h1 : x < l.length) : l.take (x + 1).toNat = l.take x.toNat ++ [l.getD x.toNat 0] := by
  have e : (x + 1).toNat = x.toNat + 1 := by omega
  have hlt : x.toNat < l.length := by omega
  rw [e, List.take_succ_eq_append_getElem hlt, List.getD_eq_getElem?_getD, List.getElem?_eq_getElem hlt]
  rfl
theorem getD_mem (l : List Int) (x : Int) (h0 : 0 ≤ x) (h1 : x < l.length) : l.getD x.toNat 0 ∈ l := by
  have hlt : x.toNat < l.length := by omega
  rw [List.getD_eq_getElem?_getD, List.getElem?_eq_getElem hlt]
  exact List.getElem_mem hlt
theorem transfer_ok (ops : List OpT) (rack bed r : Int) (at_ : List Int) (cap : Option Nat) (hl : ops.length ≤ 10000000) (ha : at_.length ≤ 100000) (hk : ∀ k ∈ at_, -100000 ≤ k ∧ k ≤ 100000) (hr : -100000 ≤ r ∧ r ≤ 100000) :
    AC cx 59 [.c (.ptr 1000000 0), .c (.val (.int .u8 bed)), .c (.sl 2000002), .c (.val (.int .i64 r))] (plan 1000000 1000001 ops rack ++ [(2000002, .row 3 (.int .i64) at_ cap)]) (fun sv h => sv = .tup [] ∧ h = plan 1000000 1000001 (ops ++ xfers bed r at_) rack ++ [(2000002, .row 3 (.int .i64) at_ cap)]) := by
  refine ac_body tt_ok Tryd.func59 rfl Tryd.ntmps59 rfl rfl (res := []) rfl ?_
  refine ax_seq ?_
  refine ax_region ?_
  refine al_run tt_ok rfl rfl ?_
  refine ax_block ?_
  refine ax_weak (st' := ⟨[(12, _), (0, _), (1, _), (3, _), (10, _), (11, _)], [(1000000, _), (1000001, _), (2000002, _)]⟩) (Wk.sub (SubL.cons rfl (SubL.cons rfl (SubL.cons rfl (SubL.cons rfl (SubL.cons rfl (SubL.cons rfl SubL.nil)))))) (SubH.cons rfl rfl (SubH.cons rfl rfl (SubH.cons rfl rfl SubH.nil)))) ?_
  refine ax_loopL (fun y : Int × List OpT => [(12, .c (.val (.int .i64 y.1)))]) (fun y : Int × List OpT => [(1000000, .cells 79 [.sl 1000001, .val (.int .i64 rack)]), (1000001, .row 45 gOp y.2 none)]) (fun y : Int × List OpT => 0 ≤ y.1 ∧ y.1 ≤ at_.length ∧ y.2 = ops ++ xfers bed r (at_.take y.1.toNat)) (fun y : Int × List OpT => (at_.length - y.1).toNat) ((0, ops)) (⟨by simp, by simp, by simp [xfers]⟩) ?_
  rintro ⟨x, o⟩ ⟨hx0, hx1, ho⟩
  refine ax_seq ?_
  refine ax_region ?_
  refine al_run tt_ok rfl rfl ?_
  refine ax_seq ?_
  refine ax_cond rfl rfl (fun hc1 => ?_) (fun hc1 => ?_)
  ·
    refine ax_skip ?_
    refine ax_seq ?_
    refine ax_block ?_
    refine ax_seq ?_
    dsimp only at hx0 hx1 ho
    have hlt : x < at_.length := by simpa using hc1
    have hkx := hk _ (getD_mem at_ x hx0 hlt)
    have hol : o.length ≤ 20000000 := by rw [ho]; simp [xfers]; omega
    refine ax_region ?_
    refine al_run tt_ok rfl (by simp only [inB, inI64, fitB, GTy.zero, Bool.and_eq_true, Bool.or_eq_true, Bool.not_eq_true', Bool.and_true, Bool.true_and, Bool.or_true, Bool.true_or, decide_eq_true_eq, decide_eq_false_iff_not, true_and, and_true]; omega) ?_
    refine ax_region ?_
    refine al_upto tt_ok rfl (by simp only [inB, inI64, fitB, GTy.zero, Bool.and_eq_true, Bool.or_eq_true, Bool.not_eq_true', Bool.and_true, Bool.true_and, Bool.or_true, Bool.true_or, decide_eq_true_eq, decide_eq_false_iff_not, true_and, and_true]; omega) ?_
    refine al_call [(1000000, 1000000), (1000001, 1000001), (1000002, 23)] (put_ok o [xferOp bed (at_.getD x.toNat 0 - r)] rack (some 1) (by simp; omega)) rfl ⟨rfl, rfl⟩ rfl Tryd.func61 rfl rfl rfl rfl rfl rfl (PassH.cons rfl rfl rfl (PassH.cons rfl rfl rfl (PassH.cons rfl rfl rfl PassH.nil))) ?_
    rintro _ _ ⟨rfl, rfl⟩
    refine ⟨_, _, rfl, rfl, ?_⟩
    refine al_run tt_ok rfl rfl ?_
    refine ax_region ?_
    refine al_run tt_ok rfl (by simp only [inB, inI64, fitB, GTy.zero, Bool.and_eq_true, Bool.or_eq_true, Bool.not_eq_true', Bool.and_true, Bool.true_and, Bool.or_true, Bool.true_or, decide_eq_true_eq, decide_eq_false_iff_not, true_and, and_true]; omega) ?_
    refine ⟨(x + 1, o ++ [xferOp bed (at_.getD x.toNat 0 - r)]), ⟨by dsimp only; omega, by dsimp only; omega, by dsimp only; rw [ho, take_next _ _ hx0 hlt]; simp [xfers]⟩, (by dsimp only; omega), Wk.sub (by repeat (first | exact SubL.nil | refine SubL.cons rfl ?_)) (SubH.cons rfl rfl (SubH.cons rfl rfl (SubH.cons rfl rfl SubH.nil)))⟩
  ·
    refine ax_exit ?_
    refine ⟨_, Wk.sub (st' := ⟨[], [(1000000, _), (1000001, _), (2000002, _)]⟩) SubL.nil (SubH.cons rfl rfl (SubH.cons rfl rfl (SubH.cons rfl rfl SubH.nil))), _, _, rfl, rfl, ?_⟩
    have hx : x = at_.length := by simp at hc1 hx1; omega
    dsimp only at ho
    rw [hx] at ho
    simp at ho
    rw [← ho]
    exact ⟨rfl, rfl⟩
end Go.Proofs.YtihcolehefloeaaDoor

/- shifts.planner.move; slices.Clone, slices.Clip. -/
namespace Go.Proofs.YtihcolehefloeaaDoor
open Go.RowKit
theorem clone_ok (l : List Int) (cap : Option Nat) (h0 : 0 < l.length) (hl : l.length ≤ 1000000) :
    AC cx 58 [.c (.lst (.int .i64) l cap)] [] (fun sv h => sv = .c (.sl 5) ∧ h = [(5, .row 3 (.int .i64) l none)]) := by
  refine ac_body tt_ok Tryd.func58 rfl Tryd.ntmps58 rfl rfl (res := [.tmp 2]) rfl ?_
  refine ax_seq ?_
  refine ax_region ?_
  refine al_run tt_ok rfl rfl ?_
  refine ax_seq ?_
  refine ax_seq ?_
  refine ax_region ?_
  refine al_run tt_ok rfl (by simpa using h0) ?_
  refine ax_cond rfl rfl (fun hc1 => ?_) (fun hc1 => ?_)
  ·
    refine ax_seq ?_
    cases hc1
  ·
    refine ax_skip ?_
    refine ax_seq ?_
    refine ax_region ?_
    refine al_run tt_ok rfl (by simp [inB, inI64, fitB, GTy.zero]; omega) ?_
    refine ax_ret ?_
    refine ⟨_, Wk.sub (st' := ⟨[(2, _)], [(5, _)]⟩) (SubL.cons rfl SubL.nil) (SubH.cons rfl rfl SubH.nil), _, _, rfl, rfl, ?_⟩
    exact ⟨rfl, rfl⟩
def imin (a b : Int) : Int := if b < a then b else a
def imax (a b : Int) : Int := if a < b then b else a
/-- How far a move goes at once; from which rack. -/
def byOf (d : Int) : Int := imax (-8) (imin 8 d)
def rackFor (rack by_ a0 aL : Int) : Int := imax (imax (imax (-4) (-4 - by_)) (aL - 40)) (imin (imin (imin 4 (4 - by_)) (a0 - 1)) rack)
def rOf (rack : Int) (l : List Int) (d : Int) : Int := rackFor rack (byOf d) (l.getD (0 : Int).toNat 0) (l.getD ((l.length : Int) - 1).toNat 0)
def moveF : Nat → List OpT → Int → List Int → Int → List OpT × Int
  | 0, ops, rack, _, _ => (ops, rack)
  | f + 1, ops, rack, l, d => if d = 0 then (ops, rack) else
    moveF f (turnOps (turnOps ops rack (rOf rack l d) ++ xfers 0 0 l) (rOf rack l d) (rOf rack l d + byOf d) ++ xfers 1 (rOf rack l d) l) (rOf rack l d + byOf d) (l.map (· + byOf d)) (d - byOf d)
theorem byOf_bounds (d : Int) : -8 ≤ byOf d ∧ byOf d ≤ 8 ∧ (d = 0 → byOf d = 0) ∧ (d ≠ 0 → (d - byOf d).natAbs < d.natAbs) := by
  unfold byOf imax imin
  split <;> split at * <;> omega
theorem rackFor_bounds (rack b x y : Int) (hb : -8 ≤ b ∧ b ≤ 8) (hy : -1200 ≤ y ∧ y ≤ 1200) : -4 ≤ rackFor rack b x y ∧ rackFor rack b x y ≤ 1200 := by
  unfold rackFor imax imin
  repeat' split
  all_goals omega
theorem turnOps_length (ops : List OpT) (rack r : Int) : (turnOps ops rack r).length ≤ ops.length + 1 := by
  unfold turnOps
  split <;> simp
theorem xfers_length (bed r : Int) (l : List Int) : (xfers bed r l).length = l.length := by simp [xfers]
theorem map_part (l : List Int) (b x : Int) (h0 : 0 ≤ x) (h1 : x < l.length) (z : List Int) (hz : z = (l.take x.toNat).map (· + b) ++ l.drop x.toNat) :
    z.getD x.toNat 0 = l.getD x.toNat 0 ∧ z.set x.toNat (z.getD x.toNat 0 + b) = (l.take (x + 1).toNat).map (· + b) ++ l.drop (x + 1).toNat := by
  have hlt : x.toNat < l.length := by omega
  have e : (x + 1).toNat = x.toNat + 1 := by omega
  have hl : ((l.take x.toNat).map (· + b)).length = x.toNat := by simp; omega
  have hd : l.drop x.toNat = l[x.toNat] :: l.drop (x.toNat + 1) := List.drop_eq_getElem_cons hlt
  have hz' : z = (l.take x.toNat).map (· + b) ++ (l[x.toNat] :: l.drop (x.toNat + 1)) := by rw [hz, hd]
  have hg : z.getD x.toNat 0 = l[x.toNat] := by
    rw [hz', List.getD_eq_getElem?_getD, List.getElem?_append_right (Nat.le_of_eq hl), hl, Nat.sub_self]
    rfl
  have hg2 : l.getD x.toNat 0 = l[x.toNat] := by rw [List.getD_eq_getElem?_getD, List.getElem?_eq_getElem hlt]; rfl
  refine ⟨by rw [hg, hg2], ?_⟩
  rw [hg, e, List.take_succ_eq_append_getElem hlt, hz', List.set_append_right _ _ (Nat.le_of_eq hl), hl, Nat.sub_self, List.set_cons_zero, List.map_append, List.append_assoc]
  rfl
def moveAll (ops : List OpT) (rack : Int) (l : List Int) (d : Int) : List OpT × Int := moveF d.natAbs ops rack l d
structure MS where
  f : Nat
  o : List OpT
  rk : Int
  l : List Int
  d : Int
theorem move_ok (ops : List OpT) (rack : Int) (at_ : List Int) (d : Int) (cap : Option Nat) (h0 : 0 < at_.length) (hl : at_.length ≤ 100) (ho : ops.length ≤ 5000000) (hd : -100 ≤ d ∧ d ≤ 100) (hk : ∀ k ∈ at_, -1000 ≤ k ∧ k ≤ 1000) (hr : -2000 ≤ rack ∧ rack ≤ 2000) :
    AC cx 27 [.c (.ptr 1000000 0), .c (.lst (.int .i64) at_ cap), .c (.val (.int .i64 d))] (plan 1000000 1000001 ops rack) (fun sv h => sv = .tup [] ∧ h = plan 1000000 1000001 (moveAll ops rack at_ d).1 (moveAll ops rack at_ d).2) := by
  refine ac_body tt_ok Tryd.func27 rfl Tryd.ntmps27 rfl rfl (res := []) rfl ?_
  refine ax_seq ?_
  refine ax_region ?_
  refine al_upto tt_ok rfl rfl ?_
  refine al_call [(5, 12)] (clone_ok at_ cap h0 (by omega)) rfl ⟨rfl, rfl⟩ rfl Tryd.func58 rfl rfl rfl rfl rfl rfl PassH.nil ?_
  rintro _ _ ⟨rfl, rfl⟩
  refine ⟨_, _, rfl, rfl, ?_⟩
  refine al_run tt_ok rfl rfl ?_
  refine ax_block ?_
  refine ax_weak (st' := ⟨[(1, _), (2, _), (0, _)], [(1000000, _), (1000001, _), (12, _)]⟩) (Wk.sub (SubL.cons rfl (SubL.cons rfl (SubL.cons rfl SubL.nil))) (SubH.cons rfl rfl (SubH.cons rfl rfl (SubH.cons rfl rfl SubH.nil)))) ?_
  refine ax_loopL (fun y : MS => [(1, .c (.sl 12)), (2, .c (.val (.int .i64 y.d)))]) (fun y : MS => [(1000000, .cells 79 [.sl 1000001, .val (.int .i64 y.rk)]), (1000001, .row 45 gOp y.o none), (12, .row 3 (.int .i64) y.l none)]) (fun y : MS => moveF y.f y.o y.rk y.l y.d = moveAll ops rack at_ d ∧ y.d.natAbs ≤ y.f ∧ y.f ≤ d.natAbs ∧ y.l = at_.map (· + (d - y.d)) ∧ y.o.length ≤ ops.length + (d.natAbs - y.f) * 202 ∧ -2000 ≤ y.rk ∧ y.rk ≤ 2000 ∧ -100 ≤ y.d ∧ y.d ≤ 100) (fun y : MS => y.f) (⟨d.natAbs, ops, rack, at_, d⟩) (⟨rfl, Nat.le_refl _, Nat.le_refl _, by simp, by simp, hr.1, hr.2, hd.1, hd.2⟩) ?_
  rintro ⟨f, o, rk, l, d'⟩ ⟨hm, hf, hfd, hll, hol, hrk, hrk', hd', hd''⟩
  refine ax_seq ?_
  refine ax_seq ?_
  refine ax_region ?_
  refine al_run tt_ok rfl rfl ?_
  refine ax_cond rfl rfl (fun hc1 => ?_) (fun hc1 => ?_)
  ·
    refine ax_skip ?_
    refine ax_block ?_
    refine ax_seq ?_
    dsimp only at hm hf hfd hll hol hrk hrk' hd' hd''
    have hd0 : d' ≠ 0 := by simpa using hc1
    have hlen : l.length = at_.length := by rw [hll]; simp
    have hkl : ∀ k ∈ l, -1200 ≤ k ∧ k ≤ 1200 := fun k hk' => by
      rw [hll] at hk'
      obtain ⟨q, hq, rfl⟩ := List.mem_map.1 hk'
      have := hk q hq
      omega
    obtain ⟨hb1, hb2, _, hb4⟩ := byOf_bounds d'
    have hb5 := hb4 hd0
    have hx1 := hkl _ (getD_mem l 0 (by omega) (by omega))
    have hx2 := hkl _ (getD_mem l ((l.length : Int) - 1) (by omega) (by omega))
    have hrr := rackFor_bounds rk (byOf d') (l.getD (0 : Int).toNat 0) (l.getD ((l.length : Int) - 1).toNat 0) ⟨hb1, hb2⟩ (by omega)
    refine ax_region ?_
    refine al_run tt_ok rfl rfl ?_
    refine ax_weak (st' := ⟨[(0, _), (1, _), (2, _), (6, .c (.val (.int .i64 (byOf d')))), (13, _), (14, _), (15, _), (16, _), (17, _)], [(1000000, _), (1000001, _), (12, _)]⟩) (Wk.sub (SubL.cons rfl (SubL.cons rfl (SubL.cons rfl (SubL.cons rfl (SubL.cons rfl (SubL.cons rfl (SubL.cons rfl (SubL.cons rfl (SubL.cons rfl SubL.nil))))))))) (SubH.cons rfl rfl (SubH.cons rfl rfl (SubH.cons rfl rfl SubH.nil)))) ?_
    refine ax_seq ?_
    refine ax_region ?_
    refine al_run tt_ok rfl (by simp only [inB, inI64, fitB, GTy.zero, Bool.and_eq_true, Bool.or_eq_true, Bool.not_eq_true', Bool.and_true, Bool.true_and, Bool.or_true, Bool.true_or, decide_eq_true_eq, decide_eq_false_iff_not, true_and, and_true]; omega) ?_
    refine ax_seq ?_
    refine ax_region ?_
    refine al_run tt_ok rfl (by simp only [inB, inI64, fitB, GTy.zero, Bool.and_eq_true, Bool.or_eq_true, Bool.not_eq_true', Bool.and_true, Bool.true_and, Bool.or_true, Bool.true_or, decide_eq_true_eq, decide_eq_false_iff_not, true_and, and_true]; omega) ?_
    refine ax_seq ?_
    refine ax_region ?_
    refine al_run tt_ok rfl rfl ?_
    refine ax_weak (st' := ⟨[(0, _), (1, _), (2, _), (6, _), (7, _), (8, _), (9, .c (.val (.int .i64 (rOf rk l d')))), (13, _), (14, _), (15, _), (16, _), (17, _), (18, _), (19, _), (20, _), (21, _), (22, _), (23, _), (24, _), (25, _), (26, _), (27, _), (28, _), (29, _), (30, _), (31, _), (32, _), (33, _), (34, _), (35, _), (36, _), (37, _), (38, _), (39, _), (40, _), (41, _), (42, _)], [(1000000, _), (1000001, _), (12, _)]⟩) (Wk.sub (SubL.cons rfl (SubL.cons rfl (SubL.cons rfl (SubL.cons rfl (SubL.cons rfl (SubL.cons rfl (SubL.cons rfl (SubL.cons rfl (SubL.cons rfl (SubL.cons rfl (SubL.cons rfl (SubL.cons rfl (SubL.cons rfl (SubL.cons rfl (SubL.cons rfl (SubL.cons rfl (SubL.cons rfl (SubL.cons rfl (SubL.cons rfl (SubL.cons rfl (SubL.cons rfl (SubL.cons rfl (SubL.cons rfl (SubL.cons rfl (SubL.cons rfl (SubL.cons rfl (SubL.cons rfl (SubL.cons rfl (SubL.cons rfl (SubL.cons rfl (SubL.cons rfl (SubL.cons rfl (SubL.cons rfl (SubL.cons rfl (SubL.cons rfl (SubL.cons rfl (SubL.cons rfl SubL.nil))))))))))))))))))))))))))))))))))))) (SubH.cons rfl rfl (SubH.cons rfl rfl (SubH.cons rfl rfl SubH.nil)))) ?_
    refine ax_seq ?_
    have hrr' : -4 ≤ rOf rk l d' ∧ rOf rk l d' ≤ 1200 := hrr
    have ht1 := turnOps_length o rk (rOf rk l d')
    have ht2 := turnOps_length (turnOps o rk (rOf rk l d') ++ xfers 0 0 l) (rOf rk l d') (rOf rk l d' + byOf d')
    rw [List.length_append, xfers_length] at ht2
    have hff : 1 ≤ f := by omega
    refine ax_region ?_
    refine al_upto tt_ok rfl rfl ?_
    refine al_call [(1000000, 1000000), (1000001, 1000001)] (turn_ok o rk (rOf rk l d') (by omega)) rfl ⟨rfl, rfl⟩ rfl Tryd.func30 rfl rfl rfl rfl rfl rfl (PassH.cons rfl rfl rfl (PassH.cons rfl rfl rfl PassH.nil)) ?_
    rintro _ _ ⟨rfl, rfl⟩
    refine ⟨_, _, rfl, rfl, ?_⟩
    refine al_run tt_ok rfl rfl ?_
    refine ax_seq ?_
    refine ax_region ?_
    refine al_upto tt_ok rfl rfl ?_
    refine al_call [(1000000, 1000000), (1000001, 1000001), (2000002, 12)] (transfer_ok (turnOps o rk (rOf rk l d')) (rOf rk l d') 0 0 l none (by omega) (by omega) (fun k hk' => by have := hkl k hk'; omega) (by omega)) rfl ⟨rfl, rfl⟩ rfl Tryd.func59 rfl rfl rfl rfl rfl rfl (PassH.cons rfl rfl rfl (PassH.cons rfl rfl rfl (PassH.cons rfl rfl rfl PassH.nil))) ?_
    rintro _ _ ⟨rfl, rfl⟩
    refine ⟨_, _, rfl, rfl, ?_⟩
    refine al_run tt_ok rfl rfl ?_
    refine ax_seq ?_
    refine ax_region ?_
    refine al_upto tt_ok rfl (by simp only [inB, inI64, fitB, GTy.zero, Bool.and_eq_true, Bool.or_eq_true, Bool.not_eq_true', Bool.and_true, Bool.true_and, Bool.or_true, Bool.true_or, decide_eq_true_eq, decide_eq_false_iff_not, true_and, and_true]; omega) ?_
    refine al_call [(1000000, 1000000), (1000001, 1000001)] (turn_ok (turnOps o rk (rOf rk l d') ++ xfers 0 0 l) (rOf rk l d') (rOf rk l d' + byOf d') (by rw [List.length_append, xfers_length]; omega)) rfl ⟨rfl, rfl⟩ rfl Tryd.func30 rfl rfl rfl rfl rfl rfl (PassH.cons rfl rfl rfl (PassH.cons rfl rfl rfl PassH.nil)) ?_
    rintro _ _ ⟨rfl, rfl⟩
    refine ⟨_, _, rfl, rfl, ?_⟩
    refine al_run tt_ok rfl rfl ?_
    refine ax_seq ?_
    refine ax_region ?_
    refine al_upto tt_ok rfl rfl ?_
    refine al_call [(1000000, 1000000), (1000001, 1000001), (2000002, 12)] (transfer_ok (turnOps (turnOps o rk (rOf rk l d') ++ xfers 0 0 l) (rOf rk l d') (rOf rk l d' + byOf d')) (rOf rk l d' + byOf d') 1 (rOf rk l d') l none (by omega) (by omega) (fun k hk' => by have := hkl k hk'; omega) (by omega)) rfl ⟨rfl, rfl⟩ rfl Tryd.func59 rfl rfl rfl rfl rfl rfl (PassH.cons rfl rfl rfl (PassH.cons rfl rfl rfl (PassH.cons rfl rfl rfl PassH.nil))) ?_
    rintro _ _ ⟨rfl, rfl⟩
    refine ⟨_, _, rfl, rfl, ?_⟩
    refine al_run tt_ok rfl rfl ?_
    refine ax_seq ?_
    refine ax_seq ?_
    refine ax_region ?_
    refine al_run tt_ok rfl rfl ?_
    refine ax_block ?_
    refine ax_weak (st' := ⟨[(60, _), (0, _), (1, _), (2, _), (6, _), (7, _), (8, _), (9, _), (13, _), (14, _), (15, _), (16, _), (17, _), (18, _), (19, _), (20, _), (21, _), (22, _), (23, _), (24, _), (25, _), (26, _), (27, _), (28, _), (29, _), (30, _), (31, _), (32, _), (33, _), (34, _), (35, _), (36, _), (37, _), (38, _), (39, _), (40, _), (41, _), (42, _), (43, _), (44, _), (46, _), (47, _), (49, _), (50, _), (51, _), (52, _), (54, _), (55, _), (56, _), (58, _), (59, _)], [(12, _), (1000000, _), (1000001, _)]⟩) (Wk.sub (SubL.cons rfl (SubL.cons rfl (SubL.cons rfl (SubL.cons rfl (SubL.cons rfl (SubL.cons rfl (SubL.cons rfl (SubL.cons rfl (SubL.cons rfl (SubL.cons rfl (SubL.cons rfl (SubL.cons rfl (SubL.cons rfl (SubL.cons rfl (SubL.cons rfl (SubL.cons rfl (SubL.cons rfl (SubL.cons rfl (SubL.cons rfl (SubL.cons rfl (SubL.cons rfl (SubL.cons rfl (SubL.cons rfl (SubL.cons rfl (SubL.cons rfl (SubL.cons rfl (SubL.cons rfl (SubL.cons rfl (SubL.cons rfl (SubL.cons rfl (SubL.cons rfl (SubL.cons rfl (SubL.cons rfl (SubL.cons rfl (SubL.cons rfl (SubL.cons rfl (SubL.cons rfl (SubL.cons rfl (SubL.cons rfl (SubL.cons rfl (SubL.cons rfl (SubL.cons rfl (SubL.cons rfl (SubL.cons rfl (SubL.cons rfl (SubL.cons rfl (SubL.cons rfl (SubL.cons rfl (SubL.cons rfl (SubL.cons rfl (SubL.cons rfl SubL.nil))))))))))))))))))))))))))))))))))))))))))))))))))) (SubH.cons rfl rfl (SubH.cons rfl rfl (SubH.cons rfl rfl SubH.nil)))) ?_
    refine ax_loopL (fun y : Int × List Int => [(60, .c (.val (.int .i64 y.1)))]) (fun y : Int × List Int => [(12, .row 3 (.int .i64) y.2 none)]) (fun y : Int × List Int => 0 ≤ y.1 ∧ y.1 ≤ l.length ∧ y.2 = (l.take y.1.toNat).map (· + byOf d') ++ l.drop y.1.toNat) (fun y : Int × List Int => (l.length - y.1).toNat) ((0, l)) (⟨by simp, by simp, by simp⟩) ?_
    rintro ⟨x, z⟩ ⟨hx0, hxl, hz⟩
    refine ax_seq ?_
    refine ax_region ?_
    refine al_run tt_ok rfl rfl ?_
    refine ax_seq ?_
    refine ax_cond rfl rfl (fun hc11 => ?_) (fun hc11 => ?_)
    ·
      refine ax_skip ?_
      refine ax_seq ?_
      refine ax_block ?_
      refine ax_seq ?_
      dsimp only at hx0 hxl hz
      have hlt : x < l.length := by simpa using hc11
      have hzl : z.length = l.length := by rw [hz]; simp; omega
      obtain ⟨hz1, hz2⟩ := map_part l (byOf d') x hx0 hlt z hz
      have hkx := hkl _ (getD_mem l x hx0 hlt)
      refine ax_region ?_
      refine al_run tt_ok rfl rfl ?_
      refine ax_region ?_
      refine al_run tt_ok rfl (by simp only [inB, inI64, GTy.zero, Bool.and_eq_true, Bool.and_true, Bool.true_and, decide_eq_true_eq, true_and, and_true, hz1]; omega) ?_
      refine ax_region ?_
      refine al_run tt_ok rfl (by simp only [inB, inI64, fitB, GTy.zero, Bool.and_eq_true, Bool.or_eq_true, Bool.not_eq_true', Bool.and_true, Bool.true_and, Bool.or_true, Bool.true_or, decide_eq_true_eq, decide_eq_false_iff_not, true_and, and_true]; omega) ?_
      refine ⟨(x + 1, z.set x.toNat (z.getD x.toNat 0 + byOf d')), ⟨by dsimp only; omega, by dsimp only; omega, hz2⟩, (by dsimp only; omega), Wk.sub (by repeat (first | exact SubL.nil | refine SubL.cons rfl ?_)) (SubH.cons rfl rfl (SubH.cons rfl rfl (SubH.cons rfl rfl SubH.nil)))⟩
    ·
      refine ax_exit ?_
      refine ax_region ?_
      refine al_run tt_ok rfl (by simp only [inI64, Bool.and_eq_true, Bool.and_true, Bool.true_and, decide_eq_true_eq]; omega) ?_
      have hzz : z = l.map (· + byOf d') := by
        have h5 : x = l.length := by simp at hc11 hxl; omega
        dsimp only at hz
        rw [hz, h5]
        simp
      have hm2 : moveF (f - 1) (turnOps (turnOps o rk (rOf rk l d') ++ xfers 0 0 l) (rOf rk l d') (rOf rk l d' + byOf d') ++ xfers 1 (rOf rk l d') l) (rOf rk l d' + byOf d') z (d' - byOf d') = moveAll ops rack at_ d := by
        rw [← hm, hzz]
        obtain ⟨q, rfl⟩ : ∃ q, f = q + 1 := ⟨f - 1, by omega⟩
        rw [moveF, if_neg hd0, Nat.add_sub_cancel]
      have hz3 : z = at_.map (· + (d - (d' - byOf d'))) := by
        rw [hzz, hll, List.map_map]
        apply List.map_congr_left
        intro a _
        simp only [Function.comp]
        omega
      refine ⟨⟨f - 1, turnOps (turnOps o rk (rOf rk l d') ++ xfers 0 0 l) (rOf rk l d') (rOf rk l d' + byOf d') ++ xfers 1 (rOf rk l d') l, rOf rk l d' + byOf d', z, d' - byOf d'⟩, ⟨hm2, by dsimp only; omega, by dsimp only; omega, hz3, by dsimp only; rw [List.length_append, xfers_length]; omega, by dsimp only; omega, by dsimp only; omega, by dsimp only; omega, by dsimp only; omega⟩, (by dsimp only; omega), Wk.sub (by repeat (first | exact SubL.nil | refine SubL.cons rfl ?_)) (SubH.cons rfl rfl (SubH.cons rfl rfl (SubH.cons rfl rfl SubH.nil)))⟩
  ·
    refine ax_exit ?_
    refine ⟨_, Wk.sub (st' := ⟨[], [(1000000, _), (1000001, _)]⟩) SubL.nil (SubH.cons rfl rfl (SubH.cons rfl rfl SubH.nil)), _, _, rfl, rfl, ?_⟩
    have hd1 : d' = 0 := by simpa using hc1
    have : moveAll ops rack at_ d = (o, rk) := by
      rw [← hm]
      dsimp only
      rw [hd1]
      cases f <;> simp [moveF]
    rw [this]
    exact ⟨rfl, rfl⟩
end Go.Proofs.YtihcolehefloeaaDoor

/- shifts.Shift's closure; slices.Clip. -/
namespace Go.Proofs.YtihcolehefloeaaDoor
open Go.RowKit
theorem clip_ok (l : List OpT) (cap : Option Nat) : AC cx 31 [.c (.lst gOp l cap)] [] (fun sv h => sv = .c (.lst gOp l (some l.length)) ∧ h = []) := by
  refine ac_body tt_ok Tryd.func31 rfl Tryd.ntmps31 rfl rfl (res := [.tmp 2]) rfl ?_
  refine ax_seq ?_
  refine ax_region ?_
  refine al_run tt_ok rfl rfl ?_
  refine ax_seq ?_
  refine ax_region ?_
  refine al_run tt_ok rfl (by simp only [inB, inI64, fitB, GTy.zero, Bool.and_eq_true, Bool.or_eq_true, Bool.not_eq_true', Bool.and_true, Bool.true_and, Bool.or_true, Bool.true_or, decide_eq_true_eq, decide_eq_false_iff_not, true_and, and_true]; omega) ?_
  refine ax_ret ?_
  refine ⟨_, Wk.sub (st' := ⟨[(2, _)], []⟩) (SubL.cons rfl SubL.nil) SubH.nil, _, _, rfl, rfl, ?_⟩
  refine ⟨?_, rfl⟩
  have e : l.take ((l.length : Int)).toNat = l := by simp
  show SV.c (.lst gOp (l.take ((l.length : Int)).toNat) (some ((l.length : Int)).toNat)) = _
  rw [e]
  rfl
/-- The index behind those that go as far. -/
def togF (at_ by_ : List Int) (i : Int) : Nat → Int → Int
  | 0, e => e
  | f + 1, e => if e < at_.length ∧ by_.getD e.toNat 0 = by_.getD i.toNat 0 then togF at_ by_ i f (e + 1) else e
def tog (at_ by_ : List Int) (i : Int) : Int := togF at_ by_ i at_.length (i + 1)
theorem tog_ok (at_ by_ : List Int) (i : Int) (h0 : 0 ≤ i) (h1 : i < at_.length) (hb : by_.length = at_.length) (hl : at_.length ≤ 1000000) :
    AC cx 28 [.c (.val (.int .i64 i)), .c (.pel (.sl (.int .i64)) at_ 0), .c (.pel (.sl (.int .i64)) by_ 0)] [] (fun sv h => sv = .c (.val (.int .i64 (tog at_ by_ i))) ∧ h = []) := by
  refine ac_body tt_ok Tryd.func28 rfl Tryd.ntmps28 rfl rfl (res := [.tmp 4]) rfl ?_
  refine ax_seq ?_
  refine ax_region ?_
  refine al_run tt_ok rfl rfl ?_
  refine ax_seq ?_
  refine ax_region ?_
  refine al_run tt_ok rfl (by simp only [inB, inI64, fitB, GTy.zero, Bool.and_eq_true, Bool.or_eq_true, Bool.not_eq_true', Bool.and_true, Bool.true_and, Bool.or_true, Bool.true_or, decide_eq_true_eq, decide_eq_false_iff_not, true_and, and_true]; omega) ?_
  refine ax_seq ?_
  refine ax_block ?_
  refine ax_weak (st' := ⟨[(5, _), (0, _), (1, _), (2, _), (4, _)], []⟩) (Wk.sub (SubL.cons rfl (SubL.cons rfl (SubL.cons rfl (SubL.cons rfl (SubL.cons rfl SubL.nil))))) SubH.nil) ?_
  refine ax_loopL (fun y : Nat × Int => [(5, .c (.val (.int .i64 y.2)))]) (fun y : Nat × Int => []) (fun y : Nat × Int => togF at_ by_ i y.1 y.2 = tog at_ by_ i ∧ 0 ≤ y.2 ∧ y.2 ≤ at_.length ∧ (at_.length : Int) ≤ y.1 + y.2) (fun y : Nat × Int => (at_.length - y.2).toNat) ((at_.length, i + 1)) (⟨rfl, by dsimp only; omega, by dsimp only; omega, by dsimp only; omega⟩) ?_
  rintro ⟨f, e⟩ ⟨hf, he0, he1, hfe⟩
  refine ax_seq ?_
  refine ax_seq ?_
  dsimp only at hf he0 he1 hfe
  refine ax_draw [] (by kernel_rfl) rfl (N := 15) ?_
  refine ad_run (fuel := 0) (ds' := ⟨#[true, true, true, true, true, true, true, true, true, true, true, true, true, true, true], true, true, true⟩) tt_ok [(0, 0), (1, 1), (2, 0), (3, 0), (4, 0), (5, 1), (6, 0), (7, 0), (8, 1), (9, 1), (10, 0), (11, 0), (12, 1), (13, 0), (14, 0)] (by kernel_rfl) rfl (by simp only [inB, inI64, fitB, GTy.zero, Bool.and_eq_true, Bool.or_eq_true, Bool.not_eq_true', Bool.and_true, Bool.true_and, Bool.or_true, Bool.true_or, decide_eq_true_eq, decide_eq_false_iff_not, true_and, and_true]; omega) ?_
  refine ad_done (by kernel_rfl) ?_
  refine ax_cond rfl rfl (fun hc2 => ?_) (fun hc2 => ?_)
  ·
    refine ax_skip ?_
    refine ax_block ?_
    refine ax_region ?_
    refine al_run tt_ok rfl (by simp only [inB, inI64, fitB, GTy.zero, Bool.and_eq_true, Bool.or_eq_true, Bool.not_eq_true', Bool.and_true, Bool.true_and, Bool.or_true, Bool.true_or, decide_eq_true_eq, decide_eq_false_iff_not, true_and, and_true]; omega) ?_
    have hcc : e < at_.length ∧ by_.getD e.toNat 0 = by_.getD i.toNat 0 := by simpa [GTy.zero] using hc2
    have hf2 : togF at_ by_ i (f - 1) (e + 1) = tog at_ by_ i := by
      rw [← hf]
      obtain ⟨q, rfl⟩ : ∃ q, f = q + 1 := ⟨f - 1, by omega⟩
      rw [togF, if_pos hcc, Nat.add_sub_cancel]
    refine ⟨(f - 1, e + 1), ⟨hf2, by dsimp only; omega, by dsimp only; omega, by dsimp only; omega⟩, (by dsimp only; omega), Wk.sub (by repeat (first | exact SubL.nil | refine SubL.cons rfl ?_)) SubH.nil⟩
  ·
    refine ax_exit ?_
    refine ax_seq ?_
    refine ax_region ?_
    refine al_run tt_ok rfl rfl ?_
    refine ax_ret ?_
    refine ⟨_, Wk.sub (st' := ⟨[(4, _)], []⟩) (SubL.cons rfl SubL.nil) SubH.nil, _, _, rfl, rfl, ?_⟩
    have hcc : ¬ (e < at_.length ∧ by_.getD e.toNat 0 = by_.getD i.toNat 0) := by
      intro h
      have h5 := hc2
      simp [GTy.zero] at h5
      have h6 := h5 h.1
      simp [List.getD_eq_getElem?_getD] at h
      exact h6 h.2
    have he : tog at_ by_ i = e := by
      rw [← hf]
      cases f with
      | zero => rfl
      | succ q => rw [togF, if_neg hcc]
    rw [he]
    exact ⟨rfl, rfl⟩
end Go.Proofs.YtihcolehefloeaaDoor

/- slices.Backward on ints. -/
namespace Go.Proofs.YtihcolehefloeaaDoor
open Go.RowKit
def bwS (l : List Int) (i : { i : Nat // i < l.length }) : List SA := [.c (.val (.int .i64 i.1)), .c (.val (.int .i64 (l.getD ((i.1 : Int)).toNat 0)))]
theorem backward_it (l : List Int) (hl : l.length ≤ 1000000) : AIt cx 60 [.fz (.sl (.int .i64)) l] (bwS l) (fun xs => xs.map (·.1) = (List.range l.length).reverse) (fun _ => True) l.length := by
  intro B w lb hB hg hlb
  refine ⟨fun i => #[.int .i64 i.1, .int .i64 (l.getD ((i.1 : Int)).toNat 0)], fun x => ⟨_, _, rfl, rfl, _, _, rfl, rfl, rfl⟩, ?_⟩
  intro la J Jx W hW hJ hJx hY h0
  refine it_body (X := cx) (n := 19) Tryd.func60 rfl Tryd.ntmps60 rfl rfl hB hg hlb hW fun a hA => ?_
  have abide : ∀ {w1 w2 : World} {pre : List { i : Nat // i < l.length }}, W.heap.size ≤ w1.heap.size → J pre w1 → w1.grownBy w2 none → J pre w2 := fun _ h hgr => hJ _ _ _ none h hgr (fun r e => by cases e)
  refine wpIn_seq (aj_region tt_ok rfl (by simp [inB, inI64]; omega) hA fun a w1 hA => ?_)
  refine c_block ?_
  refine c_loop (α := List { i : Nat // i < l.length } × World) (fun x a w' => x.1.map (·.1) = (List.range l.length).reverse.take x.1.length ∧ x.1.length ≤ l.length ∧ J x.1 x.2 ∧ W.heap.size ≤ x.2.heap.size ∧ AJ cx B 19 [(3, .c (.val (.int .i64 ((l.length : Int) - 1 - x.1.length)))), (0, .c (.val (.func (.yield la) #[] #[]))), (1, .c (.pel (.sl (.int .i64)) l 0))] x.2 a w') (fun x => l.length - x.1.length) ([], W) ⟨rfl, Nat.zero_le _, h0, Nat.le_refl _, hA.weak (by simp only [List.length_nil, Int.sub_zero, Int.ofNat_zero, Int.natCast_zero]; repeat (first | exact SubL.nil | refine SubL.cons rfl ?_))⟩ ?_
  clear hA
  rintro ⟨pre, w1⟩ a w ⟨hpre, hlen, hJ1, hsz, hA⟩
  dsimp only at hpre hlen hJ1 hsz hA
  refine wpIn_seq (wpIn_seq (aj_region tt_ok rfl rfl hA fun a w2 hA => ?_))
  refine aj_cond hA rfl (fun hc => c_skip ?_) (fun hc => c_exit ?_)
  · have hlt : pre.length < l.length := by have h5 := hc; simp at h5; omega
    refine wpIn_seq (c_block (wpIn_seq ?_))
    let i : { i : Nat // i < l.length } := ⟨l.length - 1 - pre.length, by omega⟩
    have hi : (l.length : Int) - 1 - pre.length = ((i.1 : Nat) : Int) := by show _ = ((l.length - 1 - pre.length : Nat) : Int); omega
    rw [hi] at hA
    refine aj_yield (la := la) tt_ok rfl (by simp [inB, inI64]; omega) hA rfl ⟨rfl, rfl⟩ rfl (us := [.tmp 12, .tmp 16]) rfl rfl (vs := [.int .i64 i.1, .int .i64 (l.getD ((i.1 : Int)).toNat 0)]) ?_ (Rr := fun w' e W' => (e = .returned (.bool true) ∧ J (pre ++ [i]) W' ∧ KO B w' W') ∨ (e = .returned (.bool false) ∧ Jx (pre ++ [i]) W')) (fun w' hgr => hY pre i w' (abide hsz hJ1 hgr) (by omega)) ?_ ?_
    · rintro env' vs' ⟨v1, r1, rfl, h1, v2, r2, rfl, h2, h3⟩
      have e1 : v1 = _ := h1
      have e2 : v2 = _ := h2
      have e3 : r2 = [] := h3
      subst e1 e2 e3
      rfl
    · rintro _ e w' (⟨rfl, _⟩ | ⟨rfl, _⟩) <;> exact ⟨_, rfl⟩
    · intro a2 w3 v w4 hA hq
      have hmap : (pre ++ [i]).map (·.1) = (List.range l.length).reverse.take (pre ++ [i]).length := by
        rw [List.map_append, hpre, List.length_append, List.length_singleton, List.take_add_one]
        congr 1
        rw [List.getElem?_reverse (by simpa using hlt), List.length_range, List.getElem?_range (by omega)]
        rfl
      have hgr := hA.grown
      have hsz3 : W.heap.size ≤ w3.heap.size := Nat.le_trans hsz hgr.size
      rcases hq with ⟨hv, hJ2, hK⟩ | ⟨hv, hJ2⟩
      · cases hv
        have hA2 := hA.again (d := 17) rfl (v := .bool true) hK
        obtain ⟨env2, H2, hA2⟩ := hA2
        refine xl_run tt_ok (c := true) rfl rfl hA2 fun env3 H3 a3 w5 hA3 => ?_
        have hA4 : AJ cx B 19 _ w4 a3 w5 := ⟨env3, H3, hA3⟩
        refine aj_cond hA4 rfl (fun hc => by cases hc) (fun _ => c_skip ?_)
        refine aj_region tt_ok rfl (by simp [inB, inI64]; omega) hA4 fun a5 w6 hA5 => ?_
        refine ⟨(pre ++ [i], w4), ⟨hmap, by simp; omega, hJ2, Nat.le_trans hsz3 hK.size, hA5.weak ?_⟩, by simp; omega⟩
        have e : ((i.1 : Nat) : Int) - 1 = (l.length : Int) - 1 - (pre ++ [i]).length := by rw [← hi]; simp; omega
        rw [← e]
        repeat (first | exact SubL.nil | refine SubL.cons rfl ?_)
      · cases hv
        obtain ⟨env2, H2, hA⟩ := hA
        have hS := hA.stt.put 17 (.bool false) (by decide)
        refine xl_cons (x_value hS rfl rfl (by decide) (p_not hS rfl rfl w4) fun a' hS' => x_end ?_)
        have hX := (⟨hS', SH.start w4⟩ : Sym 19 [] _ _ w4 [] a' w4)
        refine c_cond hX rfl (fun _ => c_ret ?_) (fun hc => by cases hc)
        simp only [Exit.then, Exit.inBlock]
        exact f_endI hX rfl ⟨⟨_, rfl⟩, .inr ⟨pre ++ [i], trivial, hJ2⟩⟩
  · have hlt : pre.length = l.length := by have h5 := hc; simp at h5; omega
    simp only [Exit.then, Exit.inBlock, if_true]
    have hgr := hA.grown
    obtain ⟨env2, H2, hA⟩ := hA
    have hX := (⟨hA.stt, SH.start w2⟩ : Sym 19 [] _ _ w2 [] a w2)
    exact f_endN hX rfl ⟨⟨_, rfl⟩, .inl ⟨pre, by show pre.map _ = _; rw [hpre, hlt, List.take_of_length_le (by simp)], abide hsz hJ1 hgr⟩⟩
theorem backward_ok (l : List Int) (cap : Option Nat) : AC cx 29 [.c (.lst (.int .i64) l cap)] [] (fun sv h => sv = .c (.fn 60 [.fz (.sl (.int .i64)) l]) ∧ h = []) := by
  refine ac_body tt_ok Tryd.func29 rfl Tryd.ntmps29 rfl rfl (res := [.tmp 2]) rfl ?_
  refine ax_seq ?_
  refine ax_region ?_
  refine al_run tt_ok rfl rfl ?_
  refine ax_seq ?_
  refine ax_weak (Wk.frzC 1 (.sl (.int .i64)) rfl rfl rfl) ?_
  refine ax_region ?_
  refine al_run tt_ok rfl rfl ?_
  refine ax_ret ?_
  refine ⟨_, Wk.sub (st' := ⟨[(2, _)], []⟩) (SubL.cons rfl SubL.nil) SubH.nil, _, _, rfl, rfl, ?_⟩
  exact ⟨rfl, rfl⟩
end Go.Proofs.YtihcolehefloeaaDoor

/- shifts.Shift: plain. -/
namespace Go.Proofs.YtihcolehefloeaaDoor
open Go.RowKit
theorem getD_all {p : Int → Prop} (l : List Int) (h : ∀ k ∈ l, p k) (h0 : p 0) (i : Nat) : p (l.getD i 0) := by
  rw [List.getD_eq_getElem?_getD]
  cases hi : l[i]? with
  | none => exact h0
  | some v => exact h v (List.mem_of_getElem? hi)
theorem turnOps_le (ops : List OpT) (a b : Int) : (turnOps ops a b).length ≤ ops.length + 1 := by
  unfold turnOps
  split
  · omega
  · simp
theorem moveF_bounds : ∀ (f : Nat) (ops : List OpT) (rack : Int) (l : List Int) (d : Int), (∀ k ∈ l, k.natAbs + d.natAbs ≤ 1100) → d.natAbs ≤ 100 → -2000 ≤ rack ∧ rack ≤ 2000 →
    (moveF f ops rack l d).1.length ≤ ops.length + f * (2 * l.length + 2) ∧ -2000 ≤ (moveF f ops rack l d).2 ∧ (moveF f ops rack l d).2 ≤ 2000
  | 0, ops, rack, l, d, _, _, hr => by simp [moveF]; exact hr
  | f + 1, ops, rack, l, d, hk, hd, hr => by
    unfold moveF
    split
    · exact ⟨by simp, hr⟩
    · rename_i hd0
      obtain ⟨hb1, hb2, _, hb4⟩ := byOf_bounds d
      have hb5 := hb4 hd0
      have hsg : (byOf d).natAbs + (d - byOf d).natAbs = d.natAbs := by
        unfold byOf imax imin
        split <;> split <;> omega
      have hrr := rackFor_bounds rack (byOf d) (l.getD (0 : Int).toNat 0) (l.getD ((l.length : Int) - 1).toNat 0) ⟨hb1, hb2⟩ (getD_all (p := fun k => -1200 ≤ k ∧ k ≤ 1200) l (fun k h => by have := hk k h; omega) (by omega) _)
      have hrr' : -4 ≤ rOf rack l d ∧ rOf rack l d ≤ 1200 := hrr
      have ih := moveF_bounds f (turnOps (turnOps ops rack (rOf rack l d) ++ xfers 0 0 l) (rOf rack l d) (rOf rack l d + byOf d) ++ xfers 1 (rOf rack l d) l) (rOf rack l d + byOf d) (l.map (· + byOf d)) (d - byOf d) (fun k h => by
        obtain ⟨q, hq, rfl⟩ := List.mem_map.1 h
        have := hk q hq
        omega) (by omega) (by omega)
      refine ⟨?_, ih.2⟩
      have h1 := turnOps_le ops rack (rOf rack l d)
      have h2 := turnOps_le (turnOps ops rack (rOf rack l d) ++ xfers 0 0 l) (rOf rack l d) (rOf rack l d + byOf d)
      have h3 := ih.1
      rw [List.length_append, xfers_length] at h2 h3
      rw [List.length_map] at h3
      rw [Nat.succ_mul]
      omega
theorem moveAll_bounds (ops : List OpT) (rack : Int) (l : List Int) (d : Int) (hk : ∀ k ∈ l, 1 ≤ k ∧ k ≤ 40) (hd : -40 ≤ d ∧ d ≤ 40) (hl : l.length ≤ 40) (hr : -2000 ≤ rack ∧ rack ≤ 2000) : (moveAll ops rack l d).1.length ≤ ops.length + 3280 ∧ -2000 ≤ (moveAll ops rack l d).2 ∧ (moveAll ops rack l d).2 ≤ 2000 := by
  have h := moveF_bounds d.natAbs ops rack l d (fun k h => by have := hk k h; omega) (by omega) hr
  refine ⟨Nat.le_trans h.1 ?_, h.2⟩
  have h1 : d.natAbs * (2 * l.length + 2) ≤ 40 * 82 := Nat.mul_le_mul (by omega) (by omega)
  omega
/-- What loop 1 makes of the first slots: the plan, the rack; places, distances. -/
def st1 (fr to : List Int) : Nat → (List OpT × Int) × (List Int × List Int)
  | 0 => (([], 0), ([], []))
  | i + 1 => if i + 1 < fr.length ∧ to.getD i 0 = to.getD (i + 1) 0 then (moveAll (st1 fr to i).1.1 (st1 fr to i).1.2 [fr.getD i 0] (fr.getD (i + 1) 0 - fr.getD i 0), (st1 fr to i).2)
    else ((st1 fr to i).1, ((st1 fr to i).2.1 ++ [fr.getD i 0], (st1 fr to i).2.2 ++ [to.getD i 0 - fr.getD i 0]))
def stF (at_ by_ : List Int) : Nat → Int → List Int
  | 0, _ => []
  | f + 1, i => if i < at_.length then i :: stF at_ by_ f (tog at_ by_ i) else []
/-- The first slots of those that go together. -/
def startsOf (at_ by_ : List Int) : List Int := stF at_ by_ at_.length 0
/-- Those that go together. -/
def seg (at_ by_ : List Int) (i : Int) : List Int := (at_.take (tog at_ by_ i).toNat).drop i.toNat
def stepUp (at_ by_ : List Int) (p : List OpT × Int) (i : Int) : List OpT × Int := if 0 < by_.getD i.toNat 0 then moveAll p.1 p.2 (seg at_ by_ i) (by_.getD i.toNat 0) else p
def stepDn (at_ by_ : List Int) (p : List OpT × Int) (i : Int) : List OpT × Int := if by_.getD i.toNat 0 < 0 then moveAll p.1 p.2 (seg at_ by_ i) (by_.getD i.toNat 0) else p
def planAB (p : List OpT × Int) (at_ by_ : List Int) : List OpT :=
  let p2 := (startsOf at_ by_).reverse.foldl (stepUp at_ by_) p
  let p3 := (startsOf at_ by_).foldl (stepDn at_ by_) p2
  turnOps p3.1 p3.2 0
def planOf (fr to : List Int) : List OpT := planAB (st1 fr to fr.length).1 (st1 fr to fr.length).2.1 (st1 fr to fr.length).2.2
def toAt (l : List Int) (i : Int) : Bool := decide (1 ≤ l.getD i.toNat 0) && decide (l.getD i.toNat 0 ≤ 40) && (decide (i ≤ 0) || decide (l.getD (i - 1).toNat 0 ≤ l.getD i.toNat 0))
def chkTo (l : List Int) : Bool := (List.range l.length).all fun i => toAt l i
/-- Places that are checked are few. -/
theorem chk_len (l : List Int) (h : chkAll l = true) : l.length ≤ 40 := by
  have hb : ∀ i : Nat, i < l.length → 1 + (i : Int) ≤ l.getD i 0 ∧ l.getD i 0 ≤ 40 := by
    intro i
    induction i with
    | zero =>
      intro hi
      have := List.all_eq_true.1 h 0 (by simpa using hi)
      simp [okAt] at this
      simpa using this
    | succ i ih =>
      intro hi
      have h1 := ih (by omega)
      have := List.all_eq_true.1 h (i + 1) (by simpa using hi)
      simp only [okAt, Bool.and_eq_true, Bool.or_eq_true, decide_eq_true_eq] at this
      have e1 : (((i + 1 : Nat) : Int)).toNat = i + 1 := by omega
      have e2 : (((i + 1 : Nat) : Int) - 1).toNat = i := by omega
      rw [e1, e2] at this
      omega
  by_cases hl : l.length = 0
  · omega
  · have := hb (l.length - 1) (by omega)
    omega
theorem chk_mem (l : List Int) (h : chkAll l = true) : ∀ i : Int, 0 ≤ i → i < l.length → 1 ≤ l.getD i.toNat 0 ∧ l.getD i.toNat 0 ≤ 40 := by
  intro i h0 h1
  have := List.all_eq_true.1 h i.toNat (by simp; omega)
  simp only [okAt, Bool.and_eq_true, decide_eq_true_eq, Int.toNat_of_nonneg h0] at this
  exact this.1
theorem to_mem (l : List Int) (h : chkTo l = true) : ∀ i : Int, 0 ≤ i → i < l.length → 1 ≤ l.getD i.toNat 0 ∧ l.getD i.toNat 0 ≤ 40 := by
  intro i h0 h1
  have := List.all_eq_true.1 h i.toNat (by simp; omega)
  simp only [toAt, Bool.and_eq_true, decide_eq_true_eq, Int.toNat_of_nonneg h0] at this
  exact this.1
theorem togF_bounds (at_ by_ : List Int) (i : Int) : ∀ (f : Nat) (e : Int), e ≤ at_.length → e ≤ togF at_ by_ i f e ∧ togF at_ by_ i f e ≤ at_.length
  | 0, e, h => ⟨Int.le_refl _, h⟩
  | f + 1, e, h => by
    unfold togF
    split
    · rename_i h1
      have := togF_bounds at_ by_ i f (e + 1) (by omega)
      omega
    · exact ⟨Int.le_refl _, h⟩
theorem tog_bounds (at_ by_ : List Int) (i : Int) (h1 : i < at_.length) : i < tog at_ by_ i ∧ tog at_ by_ i ≤ at_.length := by
  have := togF_bounds at_ by_ i at_.length (i + 1) (by omega)
  unfold tog
  omega
/-- Places and distances that are small. -/
def Small (at_ by_ : List Int) : Prop := (∀ k ∈ at_, 1 ≤ k ∧ k ≤ 40) ∧ (∀ d ∈ by_, -40 ≤ d ∧ d ≤ 40) ∧ by_.length = at_.length ∧ at_.length ≤ 40
def PB (k : Nat) (p : List OpT × Int) : Prop := p.1.length ≤ 3280 * k ∧ -2000 ≤ p.2 ∧ p.2 ≤ 2000
theorem PB.mono {k k' : Nat} {p : List OpT × Int} (h : PB k p) (hk : k ≤ k') : PB k' p := ⟨by have := h.1; omega, h.2⟩
theorem st1_small (fr to : List Int) (hf : chkAll fr = true) (ht : chkTo to = true) (hl : to.length = fr.length) : ∀ i : Nat, i ≤ fr.length → (∀ k ∈ (st1 fr to i).2.1, 1 ≤ k ∧ k ≤ 40) ∧ (∀ d ∈ (st1 fr to i).2.2, -40 ≤ d ∧ d ≤ 40) ∧ (st1 fr to i).2.2.length = (st1 fr to i).2.1.length ∧ (st1 fr to i).2.1.length ≤ i
  | 0, _ => by simp [st1]
  | i + 1, hi => by
    obtain ⟨h1, h2, h3, h4⟩ := st1_small fr to hf ht hl i (by omega)
    unfold st1
    split
    · exact ⟨h1, h2, h3, by dsimp only; omega⟩
    · have a1 := chk_mem fr hf i (by omega) (by omega)
      have a2 := to_mem to ht i (by omega) (by omega)
      simp only [Int.toNat_natCast] at a1 a2
      refine ⟨fun k hk => ?_, fun d hd => ?_, by simp [h3], by simp; omega⟩
      · rcases List.mem_append.1 hk with hk | hk
        · exact h1 k hk
        · simp only [List.mem_singleton] at hk; omega
      · rcases List.mem_append.1 hd with hd | hd
        · exact h2 d hd
        · simp only [List.mem_singleton] at hd; omega
theorem seg_facts (at_ by_ : List Int) (hs : Small at_ by_) (i : Int) (h0 : 0 ≤ i) (h1 : i < at_.length) : 0 < (seg at_ by_ i).length ∧ (seg at_ by_ i).length ≤ 40 ∧ ∀ k ∈ seg at_ by_ i, 1 ≤ k ∧ k ≤ 40 := by
  have ht := tog_bounds at_ by_ i h1
  refine ⟨by simp [seg]; omega, by have := hs.2.2.2; simp [seg]; omega, fun k hk => hs.1 k (List.mem_of_mem_take (List.mem_of_mem_drop hk))⟩
theorem by_small (at_ by_ : List Int) (hs : Small at_ by_) (i : Nat) : -40 ≤ by_.getD i 0 ∧ by_.getD i 0 ≤ 40 := getD_all (p := fun d => -40 ≤ d ∧ d ≤ 40) by_ hs.2.1 (by omega) i
theorem moveSeg_PB (at_ by_ : List Int) (hs : Small at_ by_) (i : Int) (h0 : 0 ≤ i) (h1 : i < at_.length) {k : Nat} {p : List OpT × Int} (h : PB k p) : PB (k + 1) (moveAll p.1 p.2 (seg at_ by_ i) (by_.getD i.toNat 0)) := by
  obtain ⟨g1, g2, g3⟩ := seg_facts at_ by_ hs i h0 h1
  have := moveAll_bounds p.1 p.2 (seg at_ by_ i) (by_.getD i.toNat 0) g3 (by_small at_ by_ hs _) g2 h.2
  refine ⟨?_, this.2⟩
  have h2 := h.1
  omega
theorem stepUp_PB (at_ by_ : List Int) (hs : Small at_ by_) (i : Int) (h0 : 0 ≤ i) (h1 : i < at_.length) {k : Nat} {p : List OpT × Int} (h : PB k p) : PB (k + 1) (stepUp at_ by_ p i) := by
  unfold stepUp
  split
  · exact moveSeg_PB at_ by_ hs i h0 h1 h
  · exact h.mono (by omega)
theorem stepDn_PB (at_ by_ : List Int) (hs : Small at_ by_) (i : Int) (h0 : 0 ≤ i) (h1 : i < at_.length) {k : Nat} {p : List OpT × Int} (h : PB k p) : PB (k + 1) (stepDn at_ by_ p i) := by
  unfold stepDn
  split
  · exact moveSeg_PB at_ by_ hs i h0 h1 h
  · exact h.mono (by omega)
end Go.Proofs.YtihcolehefloeaaDoor

/- shifts.Shift. -/
namespace Go.Proofs.YtihcolehefloeaaDoor
open Go.RowKit
def shiftR (fr to : List Int) : SV :=
  if chkAll fr = false then .tup [.c (.val (.slice none 0 0)), .c (.val (.int .i64 1))]
  else if to.length ≠ fr.length then .tup [.c (.val (.slice none 0 0)), .c (.val (.int .i64 5))]
  else if chkTo to = false then .tup [.c (.val (.slice none 0 0)), .c (.val (.int .i64 1))]
  else .tup [.c (.lst gOp (planOf fr to) (some (planOf fr to).length)), .c (.val (.int .i64 0))]
set_option maxHeartbeats 1000000 in
theorem shift_ok (fr to : List Int) (c1 c2 : Option Nat) (h1 : fr.length ≤ 1000000) (h2 : to.length ≤ 1000000) : AC cx 8 [.c (.lst (.int .i64) fr c1), .c (.lst (.int .i64) to c2)] [] (fun sv h => sv = shiftR fr to ∧ h = []) := by
  refine ac_bodyM tt_ok Tryd.func8 rfl Tryd.ntmps8 rfl rfl (res := [.tmp 4, .tmp 5]) rfl ?_
  refine ax_seq ?_
  refine ax_region ?_
  refine al_run tt_ok rfl rfl ?_
  refine ax_seq ?_
  refine ax_seq ?_
  refine ax_region ?_
  refine al_upto tt_ok rfl rfl ?_
  refine al_callP (check_ok fr c1 (by omega)) rfl ⟨rfl, rfl⟩ rfl Tryd.func26 rfl rfl rfl rfl rfl rfl ?_
  refine al_run tt_ok rfl rfl ?_
  refine ax_seq ?_
  refine ax_region ?_
  refine al_run tt_ok rfl rfl ?_
  refine ax_cond rfl rfl (fun hc2 => ?_) (fun hc2 => ?_)
  ·
    refine ax_seq ?_
    refine ax_region ?_
    refine al_run tt_ok rfl rfl ?_
    refine ax_ret ?_
    refine ⟨rfl, _, Wk.sub (st' := ⟨[(4, _), (5, _)], []⟩) (SubL.cons rfl (SubL.cons rfl SubL.nil)) SubH.nil, _, _, rfl, rfl, ?_⟩
    have hf : chkAll fr = false := by
      cases h : chkAll fr with
      | false => rfl
      | true => rw [h] at hc2; simp at hc2
    rw [shiftR, if_pos hf, hf]
    exact ⟨rfl, rfl⟩
  ·
    refine ax_skip ?_
    refine ax_seq ?_
    refine ax_seq ?_
    have hf : chkAll fr = true := by
      cases h : chkAll fr with
      | true => rfl
      | false => rw [h] at hc2; simp at hc2
    have hf' : ¬ chkAll fr = false := by rw [hf]; simp
    have hfl := chk_len fr hf
    refine ax_region ?_
    refine al_run tt_ok rfl rfl ?_
    refine ax_cond rfl rfl (fun hc4 => ?_) (fun hc4 => ?_)
    ·
      refine ax_seq ?_
      refine ax_region ?_
      refine al_run tt_ok rfl rfl ?_
      refine ax_ret ?_
      refine ⟨rfl, _, Wk.sub (st' := ⟨[(4, _), (5, _)], []⟩) (SubL.cons rfl (SubL.cons rfl SubL.nil)) SubH.nil, _, _, rfl, rfl, ?_⟩
      have hne : to.length ≠ fr.length := by simp at hc4; omega
      rw [shiftR, if_neg hf', if_pos hne]
      exact ⟨rfl, rfl⟩
    ·
      refine ax_skip ?_
      refine ax_seq ?_
      refine ax_seq ?_
      have hlen : to.length = fr.length := by simp at hc4; omega
      refine ax_region ?_
      refine al_run tt_ok rfl rfl ?_
      refine ax_block ?_
      refine ax_weak (st' := ⟨[(33, _), (0, _), (1, _), (31, _), (32, _)], []⟩) (Wk.sub (SubL.cons rfl (SubL.cons rfl (SubL.cons rfl (SubL.cons rfl (SubL.cons rfl SubL.nil))))) SubH.nil) ?_
      refine ax_loopL (fun x : Int => [(33, .c (.val (.int .i64 x)))]) (fun x : Int => []) (fun x : Int => 0 ≤ x ∧ x ≤ to.length ∧ ∀ i : Nat, i < x → toAt to i = true) (fun x : Int => (to.length - x).toNat) (0) (⟨by omega, by omega, fun i hi => by omega⟩) ?_
      rintro x ⟨hx0, hx1, hx2⟩
      refine ax_seq ?_
      refine ax_region ?_
      refine al_run tt_ok rfl rfl ?_
      refine ax_seq ?_
      refine ax_cond rfl rfl (fun hc7 => ?_) (fun hc7 => ?_)
      ·
        refine ax_skip ?_
        refine ax_seq ?_
        refine ax_block ?_
        refine ax_seq ?_
        have hlt : x < to.length := by simpa using hc7
        refine ax_region ?_
        refine al_run tt_ok rfl (by simp only [inB, inI64, fitB, GTy.zero, Bool.and_eq_true, Bool.or_eq_true, Bool.not_eq_true', Bool.and_true, Bool.true_and, Bool.or_true, Bool.true_or, decide_eq_true_eq, decide_eq_false_iff_not, true_and, and_true]; omega) ?_
        refine ax_seq ?_
        refine ax_region ?_
        refine al_run tt_ok rfl (by simp [inB, inI64, fitB, GTy.zero]; omega) ?_
        refine ax_cond rfl rfl (fun hc9 => ?_) (fun hc9 => ?_)
        ·
          refine ax_seq ?_
          refine ax_region ?_
          refine al_run tt_ok rfl rfl ?_
          refine ax_ret ?_
          refine ⟨rfl, _, Wk.sub (st' := ⟨[(4, _), (5, _)], []⟩) (SubL.cons rfl (SubL.cons rfl SubL.nil)) SubH.nil, _, _, rfl, rfl, ?_⟩
          have ht : chkTo to = false := by
            rw [chkTo, List.all_eq_false]
            refine ⟨x.toNat, by simp; omega, ?_⟩
            rw [toAt, Int.toNat_of_nonneg hx0]
            simp [GTy.zero] at hc9 ⊢
            omega
          rw [shiftR, if_neg hf', if_neg (by omega), if_pos ht]
          exact ⟨rfl, rfl⟩
        ·
          refine ax_skip ?_
          refine ax_region ?_
          refine al_run tt_ok rfl (by simp only [inB, inI64, fitB, GTy.zero, Bool.and_eq_true, Bool.or_eq_true, Bool.not_eq_true', Bool.and_true, Bool.true_and, Bool.or_true, Bool.true_or, decide_eq_true_eq, decide_eq_false_iff_not, true_and, and_true]; omega) ?_
          have hnext : ∀ i : Nat, (i : Int) < x + 1 → toAt to i = true := by
            intro i hi
            by_cases hix : (i : Int) < x
            · exact hx2 i hix
            · have : (i : Int) = x := by omega
              rw [toAt, this]
              simp [GTy.zero] at hc9 ⊢
              omega
          refine ⟨x + 1, ⟨by omega, by omega, fun i hi => hnext i hi⟩, (by dsimp only; omega), Wk.sub (by repeat (first | exact SubL.nil | refine SubL.cons rfl ?_)) SubH.nil⟩
      ·
        refine ax_exit ?_
        refine ax_seq ?_
        have ht : chkTo to = true := by
          rw [chkTo, List.all_eq_true]
          intro i hi
          have h5 : ¬ x < to.length := by simpa using hc7
          exact hx2 i (by simp at hi; omega)
        clear hx2 hx1 hx0 hc7
        refine ax_region ?_
        refine al_run tt_ok rfl rfl ?_
        refine ax_mv 9 700009 rfl ?_
        refine ax_weak (Wk.nilC 700009 0 9 45 gOp rfl) ?_
        refine ax_seq ?_
        refine ax_region ?_
        refine al_run tt_ok rfl rfl ?_
        refine ax_weak (Wk.nilC 10 0 12 3 (.int .i64) rfl) ?_
        refine ax_weak (Wk.nilC 11 0 13 3 (.int .i64) rfl) ?_
        refine ax_seq ?_
        refine ax_seq ?_
        refine ax_region ?_
        refine al_run tt_ok rfl rfl ?_
        refine ax_block ?_
        refine ax_weak (st' := ⟨[(60, _), (0, _), (1, _), (9, _), (10, _), (11, _), (58, _), (59, _)], [(700009, _), (9, _), (12, _), (13, _), (10, _), (11, _)]⟩) (Wk.sub (SubL.cons rfl (SubL.cons rfl (SubL.cons rfl (SubL.cons rfl (SubL.cons rfl (SubL.cons rfl (SubL.cons rfl (SubL.cons rfl SubL.nil)))))))) (SubH.cons rfl rfl (SubH.cons rfl rfl (SubH.cons rfl rfl (SubH.cons rfl rfl (SubH.cons rfl rfl (SubH.cons rfl rfl SubH.nil))))))) ?_
        refine ax_loopL (fun y : Int × (List OpT × Int) × (List Int × List Int) => [(60, .c (.val (.int .i64 y.1)))]) (fun y : Int × (List OpT × Int) × (List Int × List Int) => [(700009, .cells 79 [.sl 9, .val (.int .i64 y.2.1.2)]), (9, .row 45 gOp y.2.1.1 none), (12, .row 3 (.int .i64) y.2.2.1 none), (13, .row 3 (.int .i64) y.2.2.2 none), (10, .cells 42 [.sl 12]), (11, .cells 42 [.sl 13])]) (fun y : Int × (List OpT × Int) × (List Int × List Int) => 0 ≤ y.1 ∧ y.1 ≤ fr.length ∧ st1 fr to y.1.toNat = y.2 ∧ y.2.1.1.length ≤ 3280 * y.1.toNat ∧ -2000 ≤ y.2.1.2 ∧ y.2.1.2 ≤ 2000 ∧ y.2.2.1.length ≤ y.1.toNat ∧ y.2.2.2.length = y.2.2.1.length) (fun y : Int × (List OpT × Int) × (List Int × List Int) => (fr.length - y.1).toNat) ((0, (([], 0), ([], [])))) (⟨by simp, by simp, rfl, by simp, by simp, by simp, by simp, by simp⟩) ?_
        rintro ⟨x, ⟨o, rk⟩, at_, by_⟩ ⟨hx0, hx1, hst, hol, hr1, hr2, hal, hbl⟩
        refine ax_seq ?_
        refine ax_region ?_
        refine al_run tt_ok rfl rfl ?_
        refine ax_seq ?_
        refine ax_cond rfl rfl (fun hc15 => ?_) (fun hc15 => ?_)
        ·
          refine ax_skip ?_
          refine ax_seq ?_
          refine ax_block ?_
          refine ax_seq ?_
          dsimp only at hx0 hx1 hst hol hr1 hr2 hal hbl
          have hlt : x < fr.length := by simpa using hc15
          refine ax_region ?_
          refine al_run tt_ok rfl (by simp only [inB, inI64, fitB, GTy.zero, Bool.and_eq_true, Bool.or_eq_true, Bool.not_eq_true', Bool.and_true, Bool.true_and, Bool.or_true, Bool.true_or, decide_eq_true_eq, decide_eq_false_iff_not, true_and, and_true]; omega) ?_
          refine ax_seq ?_
          refine ax_seq ?_
          refine ax_draw [] (by kernel_rfl) rfl (N := 17) ?_
          refine ad_run (fuel := 0) (ds' := ⟨#[true, true, true, true, true, true, true, true, true, true, true, true, true, true, true, true, true], true, true, true⟩) tt_ok [(0, 0), (1, 0), (2, 0), (3, 0), (4, 0), (5, 0), (6, 0), (7, 0), (8, 0), (9, 1), (10, 0), (11, 0), (12, 0), (13, 0), (14, 1), (15, 0), (16, 0)] (by kernel_rfl) rfl (by simp only [inB, inI64, fitB, GTy.zero, Bool.and_eq_true, Bool.or_eq_true, Bool.not_eq_true', Bool.and_true, Bool.true_and, Bool.or_true, Bool.true_or, decide_eq_true_eq, decide_eq_false_iff_not, true_and, and_true]; omega) ?_
          refine ad_done (by kernel_rfl) ?_
          refine ax_weak (st' := ⟨[(0, .c (.lst (.int .i64) fr c1)), (1, .c (.lst (.int .i64) to c2)), (9, .c (.ptr 700009 0)), (10, .c (.ptr 10 0)), (11, .c (.ptr 11 0)), (12, .c (.val (.int .i64 x))), (13, .c (.val (.int .i64 (fr.getD x.toNat 0)))), (58, .c (.lst (.int .i64) fr c1)), (59, .c (.val (.int .i64 fr.length))), (60, .c (.val (.int .i64 x))), (61, _), (62, _), (63, _), (64, _), (65, _), (66, _), (67, _), (68, _), (69, _), (70, _), (71, _), (72, _), (73, _), (74, _), (75, _), (76, _), (77, _), (78, _), (79, _), (80, _), (81, _)], [(700009, .cells 79 [.sl 9, .val (.int .i64 rk)]), (9, .row 45 gOp o none), (12, .row 3 (.int .i64) at_ none), (13, .row 3 (.int .i64) by_ none), (10, .cells 42 [.sl 12]), (11, .cells 42 [.sl 13])]⟩) (Wk.sub (SubL.cons rfl (SubL.cons rfl (SubL.cons rfl (SubL.cons rfl (SubL.cons rfl (SubL.cons rfl (SubL.cons rfl (SubL.cons rfl (SubL.cons rfl (SubL.cons rfl (SubL.cons rfl (SubL.cons rfl (SubL.cons rfl (SubL.cons rfl (SubL.cons rfl (SubL.cons rfl (SubL.cons rfl (SubL.cons rfl (SubL.cons rfl (SubL.cons rfl (SubL.cons rfl (SubL.cons rfl (SubL.cons rfl (SubL.cons rfl (SubL.cons rfl (SubL.cons rfl (SubL.cons rfl (SubL.cons rfl (SubL.cons rfl (SubL.cons rfl (SubL.cons rfl SubL.nil))))))))))))))))))))))))))))))) (SubH.cons rfl rfl (SubH.cons rfl rfl (SubH.cons rfl rfl (SubH.cons rfl rfl (SubH.cons rfl rfl (SubH.cons rfl rfl SubH.nil))))))) ?_
          refine ax_cond rfl rfl (fun hc17 => ?_) (fun hc17 => ?_)
          ·
            refine ax_seq ?_
            have hcc : x + 1 < fr.length ∧ to.getD x.toNat 0 = to.getD (x + 1).toNat 0 := by
              have h5 := hc17
              simp only [GTy.zero, Bool.cond_false_right, Bool.and_eq_true, decide_eq_true_eq] at h5
              exact h5
            have hk1 := chk_mem fr hf x hx0 hlt
            have hk2 := chk_mem fr hf (x + 1) (by omega) hcc.1
            have hseg : (fr.take (x + 1).toNat).drop x.toNat = [fr.getD x.toNat 0] := by
              rw [take_next _ _ hx0 hlt, List.drop_append_of_le_length (by simp; omega)]
              simp
            let nx : Int × (List OpT × Int) × (List Int × List Int) := (x + 1, (moveAll o rk ((fr.take (x + 1).toNat).drop x.toNat) (fr.getD (x + 1).toNat 0 - fr.getD x.toNat 0), (at_, by_)))
            have hn1 : nx.1 = x + 1 := rfl
            have exn : (x + 1).toNat = x.toNat + 1 := by omega
            have hmb := moveAll_bounds o rk ((fr.take (x + 1).toNat).drop x.toNat) (fr.getD (x + 1).toNat 0 - fr.getD x.toNat 0) (by rw [hseg]; intro k hk; simp only [List.mem_singleton] at hk; omega) (by omega) (by rw [hseg]; simp) ⟨hr1, hr2⟩
            have hnx : 0 ≤ nx.1 ∧ nx.1 ≤ fr.length ∧ st1 fr to nx.1.toNat = nx.2 ∧ nx.2.1.1.length ≤ 3280 * nx.1.toNat ∧ -2000 ≤ nx.2.1.2 ∧ nx.2.1.2 ≤ 2000 ∧ nx.2.2.1.length ≤ nx.1.toNat ∧ nx.2.2.2.length = nx.2.2.1.length := by
              refine ⟨by show 0 ≤ x + 1; omega, by show x + 1 ≤ _; omega, ?_, ?_, hmb.2.1, hmb.2.2, ?_, hbl⟩
              · show st1 fr to (x + 1).toNat = (moveAll o rk ((fr.take (x + 1).toNat).drop x.toNat) (fr.getD (x + 1).toNat 0 - fr.getD x.toNat 0), (at_, by_))
                rw [hseg, exn, st1, if_pos ⟨by omega, by rw [← exn]; exact hcc.2⟩, hst]
              · show (moveAll o rk ((fr.take (x + 1).toNat).drop x.toNat) (fr.getD (x + 1).toNat 0 - fr.getD x.toNat 0)).1.length ≤ 3280 * (x + 1).toNat
                omega
              · show at_.length ≤ (x + 1).toNat
                omega
            refine ax_draw [] (by kernel_rfl) rfl (N := 13) ?_
            refine ad_run (fuel := 1) (ds' := ⟨#[true, true, true, true, true, true, true, true, true, true, true, true, false], true, true, true⟩) tt_ok [(0, 0), (1, 0), (2, 0), (3, 0), (4, 0), (5, 0), (6, 0), (7, 0), (8, 0), (9, 1), (10, 0), (11, 0)] (by kernel_rfl) rfl (by simp only [inB, inI64, fitB, GTy.zero, Bool.and_eq_true, Bool.or_eq_true, Bool.not_eq_true', Bool.and_true, Bool.true_and, Bool.or_true, Bool.true_or, decide_eq_true_eq, decide_eq_false_iff_not, true_and, and_true]; omega) ?_
            refine ad_ready (by kernel_rfl) (ads_cons (i := 12) ?_ ads_nil)
            refine ado_of rfl ?_
            refine adx_call (i := 12) (listed' := #[true, true, true, true, true, true, true, true, true, true, true, true, true]) (pre' := false) [(1000000, 700009), (1000001, 9)] (move_ok o rk ((fr.take (x + 1).toNat).drop x.toNat) (fr.getD (x + 1).toNat 0 - fr.getD x.toNat 0) (capLess c1 x.toNat) (by rw [hseg]; simp) (by rw [hseg]; simp) (by omega) (by omega) (by rw [hseg]; intro k hk; simp only [List.mem_singleton] at hk; omega) ⟨hr1, hr2⟩) rfl rfl rfl rfl ⟨rfl, rfl⟩ rfl Tryd.func27 rfl rfl rfl rfl rfl rfl (PassH.cons rfl rfl rfl (PassH.cons rfl rfl rfl PassH.nil)) ?_
            rintro _ _ ⟨rfl, rfl⟩
            refine ⟨_, _, rfl, rfl, ?_⟩
            refine ad_done (by kernel_rfl) ?_
            refine ax_exit ?_
            refine ax_region ?_
            refine al_run tt_ok rfl (by simp only [inB, inI64, fitB, GTy.zero, Bool.and_eq_true, Bool.or_eq_true, Bool.not_eq_true', Bool.and_true, Bool.true_and, Bool.or_true, Bool.true_or, decide_eq_true_eq, decide_eq_false_iff_not, true_and, and_true]; omega) ?_
            refine ⟨nx, hnx, (by dsimp only; omega), Wk.sub (by repeat (first | exact SubL.nil | refine SubL.cons rfl ?_)) (SubH.cons rfl rfl (SubH.cons rfl rfl (SubH.cons rfl rfl (SubH.cons rfl rfl (SubH.cons rfl rfl (SubH.cons rfl rfl SubH.nil))))))⟩
          ·
            refine ax_skip ?_
            have hcc : ¬ (x + 1 < fr.length ∧ to.getD x.toNat 0 = to.getD (x + 1).toNat 0) := by
              intro h6
              have h5 := hc17
              simp only [GTy.zero, Bool.cond_false_right, Bool.and_eq_false_iff, decide_eq_false_iff_not] at h5
              rcases h5 with h5 | h5
              · exact h5 h6.1
              · exact h5 h6.2
            have hk1 := chk_mem fr hf x hx0 hlt
            have hk2 := to_mem to ht x hx0 (by omega)
            let nx : Int × (List OpT × Int) × (List Int × List Int) := (x + 1, ((o, rk), (at_ ++ [fr.getD x.toNat 0], by_ ++ [to.getD x.toNat 0 - fr.getD x.toNat 0])))
            have hn1 : nx.1 = x + 1 := rfl
            have exn : (x + 1).toNat = x.toNat + 1 := by omega
            have hnx : 0 ≤ nx.1 ∧ nx.1 ≤ fr.length ∧ st1 fr to nx.1.toNat = nx.2 ∧ nx.2.1.1.length ≤ 3280 * nx.1.toNat ∧ -2000 ≤ nx.2.1.2 ∧ nx.2.1.2 ≤ 2000 ∧ nx.2.2.1.length ≤ nx.1.toNat ∧ nx.2.2.2.length = nx.2.2.1.length := by
              refine ⟨by show 0 ≤ x + 1; omega, by show x + 1 ≤ _; omega, ?_, ?_, hr1, hr2, ?_, ?_⟩
              · show st1 fr to (x + 1).toNat = _
                rw [exn, st1, if_neg (fun h6 => hcc ⟨by omega, by rw [exn]; exact h6.2⟩), hst]
              · show o.length ≤ 3280 * (x + 1).toNat
                omega
              · show (at_ ++ [_]).length ≤ (x + 1).toNat
                rw [List.length_append, List.length_singleton]
                omega
              · show (by_ ++ [_]).length = (at_ ++ [_]).length
                rw [List.length_append, List.length_append, List.length_singleton, List.length_singleton, hbl]
            apply ax_cut
            ·
              refine ax_draw [1, 2, 3, 4, 5, 6, 7, 8, 9, 10, 11] (by kernel_rfl) rfl (N := 15) ?_
              refine ad_run (fuel := 6) (ds' := ⟨#[true, true, false, false, true, true, true, true, true, true, true, false, false, false, false], true, true, true⟩) tt_ok [(0, 3), (1, 0), (4, 3), (5, 0), (6, 0), (7, 0), (8, 1), (9, 0), (10, 0)] (by kernel_rfl) rfl (by simp only [inB, inI64, fitB, GTy.zero, Bool.and_eq_true, Bool.or_eq_true, Bool.not_eq_true', Bool.and_true, Bool.true_and, Bool.or_true, Bool.true_or, decide_eq_true_eq, decide_eq_false_iff_not, true_and, and_true]; omega) ?_
              refine ad_ready (by kernel_rfl) (ads_cons (i := 2) ?_ (ads_cons (i := 11) ?_ ads_nil))
              ·
                refine ado_keep tt_ok (i := 2) rfl rfl rfl rfl rfl ?_
                refine ad_ready (by kernel_rfl) (ads_cons (i := 3) ?_ (ads_cons (i := 11) ?_ ads_nil))
                ·
                  refine ado_keep tt_ok (i := 3) rfl rfl rfl (by simp [inB, inI64, fitB, GTy.zero]; omega) rfl ?_
                  refine ad_run (fuel := 0) (ds' := ⟨#[true, true, true, true, true, true, true, true, true, true, true, true, true, true, true], false, false, true⟩) tt_ok [(11, 4), (12, 2), (13, 2), (14, 2)] (by kernel_rfl) rfl (by simp [inB, inI64, fitB, GTy.zero]; omega) ?_
                  refine ad_done (by kernel_rfl) ?_
                  exact ⟨rfl, Wk.pick [0, 1, 9, 10, 11, 12, 13, 58, 59, 60, 61, 62, 63, 64, 65, 66, 67, 68, 69, 70, 71, 72, 73, 74, 75, 76, 77, 78, 79, 80, 81, 95, 97, 98, 99, 100, 101, 102, 103, 104, 106, 107] [700009, 9, 10, 11, 12, 13] rfl rfl⟩
                ·
                  refine ado_keep tt_ok (i := 11) rfl rfl rfl rfl rfl ?_
                  refine ad_run (fuel := 0) (ds' := ⟨#[true, true, true, true, true, true, true, true, true, true, true, true, true, true, true], false, false, true⟩) tt_ok [(3, 4), (12, 2), (13, 2), (14, 2)] (by kernel_rfl) rfl (by simp [inB, inI64, fitB, GTy.zero]; omega) ?_
                  refine ad_done (by kernel_rfl) ?_
                  exact ⟨rfl, Wk.pick [0, 1, 9, 10, 11, 12, 13, 58, 59, 60, 61, 62, 63, 64, 65, 66, 67, 68, 69, 70, 71, 72, 73, 74, 75, 76, 77, 78, 79, 80, 81, 95, 97, 98, 99, 100, 101, 102, 103, 104, 106, 107] [700009, 9, 10, 11, 12, 13] rfl rfl⟩
              ·
                refine ado_keep tt_ok (i := 11) rfl rfl rfl rfl rfl ?_
                refine ad_run (fuel := 0) (ds' := ⟨#[true, true, true, true, true, true, true, true, true, true, true, true, true, true, true], false, false, true⟩) tt_ok [(2, 4), (3, 4), (12, 2), (13, 2), (14, 2)] (by kernel_rfl) rfl (by simp [inB, inI64, fitB, GTy.zero]; omega) ?_
                refine ad_done (by kernel_rfl) ?_
                exact ⟨rfl, Wk.pick [0, 1, 9, 10, 11, 12, 13, 58, 59, 60, 61, 62, 63, 64, 65, 66, 67, 68, 69, 70, 71, 72, 73, 74, 75, 76, 77, 78, 79, 80, 81, 95, 97, 98, 99, 100, 101, 102, 103, 104, 106, 107] [700009, 9, 10, 11, 12, 13] rfl rfl⟩
            refine ax_region ?_
            refine al_run tt_ok rfl (by simp only [inB, inI64, fitB, GTy.zero, Bool.and_eq_true, Bool.or_eq_true, Bool.not_eq_true', Bool.and_true, Bool.true_and, Bool.or_true, Bool.true_or, decide_eq_true_eq, decide_eq_false_iff_not, true_and, and_true]; omega) ?_
            refine ⟨nx, hnx, (by dsimp only; omega), Wk.sub (by repeat (first | exact SubL.nil | refine SubL.cons rfl ?_)) (SubH.cons rfl rfl (SubH.cons rfl rfl (SubH.cons rfl rfl (SubH.cons rfl rfl (SubH.cons rfl rfl (SubH.cons rfl rfl SubH.nil))))))⟩
        ·
          refine ax_exit ?_
          refine ax_seq ?_
          dsimp only at hx0 hx1 hst hol hr1 hr2 hal hbl
          have hxe : x = fr.length := by
            have h5 : ¬ x < fr.length := by simpa using hc15
            omega
          have hst' : st1 fr to fr.length = ((o, rk), at_, by_) := by rw [← hst, hxe]; simp
          have hsm : Small at_ by_ := by
            have h7 := st1_small fr to hf ht hlen fr.length (Nat.le_refl _)
            rw [hst'] at h7
            exact ⟨h7.1, h7.2.1, h7.2.2.1, Nat.le_trans h7.2.2.2 hfl⟩
          have hpb : PB 40 (o, rk) := ⟨by dsimp only; omega, hr1, hr2⟩
          have hbl' := hsm.2.2.1
          have hal' := hsm.2.2.2
          clear hst hol hr1 hr2 hal hbl hc15 hx0 hx1 hc4
          refine ax_weak (Wk.frz (id := 12) rfl) ?_
          refine ax_weak (Wk.frz (id := 13) rfl) ?_
          refine ax_weak (Wk.frzC 10 (.sl (.int .i64)) rfl rfl rfl) ?_
          refine ax_weak (Wk.frzC 11 (.sl (.int .i64)) rfl rfl rfl) ?_
          refine ax_region ?_
          refine al_run tt_ok rfl rfl ?_
          refine ax_mv 14 700014 rfl ?_
          refine ax_seq ?_
          refine ax_region ?_
          refine al_run tt_ok rfl rfl ?_
          refine ax_weak (Wk.nil 15 15 3 (.int .i64) rfl rfl) ?_
          refine ax_seq ?_
          refine ax_seq ?_
          refine ax_region ?_
          refine al_run tt_ok rfl rfl ?_
          refine ax_block ?_
          refine ax_weak (st' := ⟨[(16, _), (15, _), (9, _), (10, _), (11, _), (14, _)], [(15, _), (700009, _), (9, _), (700014, _)]⟩) (Wk.sub (SubL.cons rfl (SubL.cons rfl (SubL.cons rfl (SubL.cons rfl (SubL.cons rfl (SubL.cons rfl SubL.nil)))))) (SubH.cons rfl rfl (SubH.cons rfl rfl (SubH.cons rfl rfl (SubH.cons rfl rfl SubH.nil))))) ?_
          refine ax_loopL (fun y : Nat × Int × List Int => [(16, .c (.val (.int .i64 y.2.1))), (15, .c (.sl 15))]) (fun y : Nat × Int × List Int => [(15, .row 3 (.int .i64) y.2.2 none)]) (fun y : Nat × Int × List Int => y.2.2 ++ stF at_ by_ y.1 y.2.1 = startsOf at_ by_ ∧ 0 ≤ y.2.1 ∧ (at_.length : Int) ≤ y.1 + y.2.1 ∧ (∀ k ∈ y.2.2, 0 ≤ k ∧ k < at_.length) ∧ y.2.2.length ≤ y.2.1.toNat ∧ y.2.1 ≤ at_.length) (fun y : Nat × Int × List Int => (at_.length - y.2.1).toNat) ((at_.length, 0, [])) (⟨rfl, by simp, by simp, by simp, by simp, by simp⟩) ?_
          rintro ⟨f, i, l⟩ ⟨hl0, hi0, hfi, hlm, hll, hil⟩
          refine ax_seq ?_
          refine ax_seq ?_
          dsimp only at hl0 hi0 hfi hlm hll hil
          refine ax_region ?_
          refine al_run tt_ok rfl rfl ?_
          refine ax_cond rfl rfl (fun hc24 => ?_) (fun hc24 => ?_)
          ·
            refine ax_skip ?_
            refine ax_seq ?_
            refine ax_block ?_
            have hilt : i < at_.length := by simpa using hc24
            have htb := tog_bounds at_ by_ i hilt
            refine ax_region ?_
            refine al_run tt_ok rfl (by simp [inB, inI64, fitB, GTy.zero]; omega) ?_
            refine ax_region ?_
            refine al_upto tt_ok rfl rfl ?_
            refine al_callV [] (tog_ok at_ by_ i hi0 hilt hbl' (by omega)) rfl ⟨rfl, rfl⟩ rfl rfl Tryd.func28 rfl rfl rfl rfl rfl rfl PassH.nil ?_
            rintro _ _ ⟨rfl, rfl⟩
            refine ⟨_, _, rfl, rfl, ?_⟩
            refine al_run tt_ok rfl rfl ?_
            have hl1 : (l ++ [i]) ++ stF at_ by_ (f - 1) (tog at_ by_ i) = startsOf at_ by_ := by
              rw [← hl0]
              obtain ⟨q, rfl⟩ : ∃ q, f = q + 1 := ⟨f - 1, by omega⟩
              rw [stF, if_pos hilt, Nat.add_sub_cancel, List.append_assoc]
              rfl
            refine ⟨(f - 1, tog at_ by_ i, l ++ [i]), ⟨hl1, by dsimp only; omega, by dsimp only; omega, (by
  intro k hk
  rcases List.mem_append.1 hk with hk | hk
  · exact hlm k hk
  · simp only [List.mem_singleton] at hk; omega), by simp only [List.length_append, List.length_singleton]; omega, htb.2⟩, (by dsimp only; omega), Wk.sub (by repeat (first | exact SubL.nil | refine SubL.cons rfl ?_)) (SubH.cons rfl rfl (SubH.cons rfl rfl (SubH.cons rfl rfl (SubH.cons rfl rfl SubH.nil))))⟩
          ·
            refine ax_exit ?_
            refine ax_seq ?_
            refine ax_seq ?_
            have hlst : l = startsOf at_ by_ := by
              have h5 : ¬ i < at_.length := by simpa using hc24
              rw [← hl0]
              cases f with
              | zero => simp [stF]
              | succ q => rw [stF, if_neg h5]; simp
            have hlg : ∀ j : Nat, j < l.length → 0 ≤ l.getD j 0 ∧ l.getD j 0 < at_.length := fun j hj => hlm _ (by
              rw [List.getD_eq_getElem?_getD, List.getElem?_eq_getElem hj]
              exact List.getElem_mem hj)
            have hl40 : l.length ≤ 40 := by omega
            clear hc24 hi0 hfi hll hil hl0
            refine ax_weak (Wk.frz (id := 15) rfl) ?_
            refine ax_region ?_
            refine al_upto tt_ok rfl rfl ?_
            refine al_callP (backward_ok l none) rfl ⟨rfl, rfl⟩ rfl Tryd.func29 rfl rfl rfl rfl rfl rfl ?_
            refine al_run tt_ok rfl rfl ?_
            refine ax_block ?_
            refine ax_weak (st' := ⟨[(9, _), (10, _), (11, _), (14, _), (15, _), (122, _)], [(700009, _), (9, _), (700014, _)]⟩) (Wk.sub (SubL.cons rfl (SubL.cons rfl (SubL.cons rfl (SubL.cons rfl (SubL.cons rfl (SubL.cons rfl SubL.nil)))))) (SubH.cons rfl rfl (SubH.cons rfl rfl (SubH.cons rfl rfl SubH.nil)))) ?_
            refine ax_range (β := List OpT × Int) (ms := [(18, 124)]) (pl := [123, 124]) rfl rfl rfl Tryd.func60 rfl rfl (backward_it l (by omega)) (fun _ => rfl) rfl (Asg.region rfl) rfl rfl (fun _ _ y => [(700009, .cells 79 [.sl 9, .val (.int .i64 y.2)]), (9, .row 45 gOp y.1 none), (700014, .cells 81 [.fn 28 [.fz (.sl (.int .i64)) at_, .fz (.sl (.int .i64)) by_]])]) (fun e pre y => e = .normal ∧ y = pre.foldl (fun p i => stepUp at_ by_ p (l.getD ((i.1 : Int)).toNat 0)) (o, rk) ∧ PB (40 + pre.length) y) (fun _ _ _ => rfl) (o, rk) ⟨rfl, rfl, hpb⟩ rfl ?_ ?_ ?_
            ·
              rintro lb pre z ⟨o2, rk2⟩ ⟨-, hfold, hpb2⟩ hpre
              have hz := hlg z.1 z.2
              have hz1 : (l.getD ((z.1 : Int)).toNat 0) = l.getD z.1 0 := by rw [Int.toNat_natCast]
              rw [← hz1] at hz
              obtain ⟨hz2, hz3⟩ := hz
              have htb := tog_bounds at_ by_ (l.getD ((z.1 : Int)).toNat 0) hz3
              obtain ⟨hg1, hg2, hg3⟩ := seg_facts at_ by_ hsm _ hz2 hz3
              have hbs := by_small at_ by_ hsm (l.getD ((z.1 : Int)).toNat 0).toNat
              have hpb3 := stepUp_PB at_ by_ hsm _ hz2 hz3 hpb2
              have hfold2 : (pre ++ [z]).foldl (fun p i => stepUp at_ by_ p (l.getD ((i.1 : Int)).toNat 0)) (o, rk) = stepUp at_ by_ (o2, rk2) (l.getD ((z.1 : Int)).toNat 0) := by rw [List.foldl_append, ← hfold]; rfl
              have hol2 := hpb2.1
              dsimp only at hol2
              refine ax_block ?_
              refine ax_seq ?_
              refine ax_region ?_
              refine al_run tt_ok rfl (by simp only [inB, inI64, fitB, GTy.zero, Bool.and_eq_true, Bool.or_eq_true, Bool.not_eq_true', Bool.and_true, Bool.true_and, Bool.or_true, Bool.true_or, decide_eq_true_eq, decide_eq_false_iff_not, true_and, and_true]; omega) ?_
              refine ax_cond rfl rfl (fun hc29 => ?_) (fun hc29 => ?_)
              ·
                have hst3 : stepUp at_ by_ (o2, rk2) (l.getD ((z.1 : Int)).toNat 0) = moveAll o2 rk2 (seg at_ by_ (l.getD ((z.1 : Int)).toNat 0)) (by_.getD (l.getD ((z.1 : Int)).toNat 0).toNat 0) := by
                  rw [stepUp, if_pos (by simpa [GTy.zero] using hc29)]
                let nx : List OpT × Int := moveAll o2 rk2 (seg at_ by_ (l.getD ((z.1 : Int)).toNat 0)) (by_.getD (l.getD ((z.1 : Int)).toNat 0).toNat 0)
                have hnx : Exit.normal = Exit.normal ∧ nx = (pre ++ [z]).foldl (fun p i => stepUp at_ by_ p (l.getD ((i.1 : Int)).toNat 0)) (o, rk) ∧ PB (40 + (pre ++ [z]).length) nx := by
                  refine ⟨rfl, by rw [hfold2, hst3], ?_⟩
                  rw [hst3] at hpb3
                  rw [List.length_append, List.length_singleton]
                  exact hpb3
                refine ax_draw [3, 4, 5, 6, 7, 8, 9] (by kernel_rfl) rfl (N := 11) ?_
                refine ad_run (fuel := 3) (ds' := ⟨#[true, true, true, true, false, false, true, true, true, true, false], true, true, true⟩) tt_ok [(0, 1), (1, 0), (2, 3), (3, 0), (6, 1), (7, 0), (8, 0), (9, 1)] (by kernel_rfl) rfl (by simp only [inB, inI64, fitB, GTy.zero, Bool.and_eq_true, Bool.or_eq_true, Bool.not_eq_true', Bool.and_true, Bool.true_and, Bool.or_true, Bool.true_or, decide_eq_true_eq, decide_eq_false_iff_not, true_and, and_true]; omega) ?_
                refine ad_ready (by kernel_rfl) (ads_cons (i := 4) ?_ ads_nil)
                refine ado_of rfl ?_
                refine adx_callV (i := 4) (listed' := #[true, true, true, true, true, false, true, true, true, true, false]) (pre' := true) [] (tog_ok at_ by_ (l.getD ((z.1 : Int)).toNat 0) hz2 hz3 hbl' (by omega)) rfl rfl rfl rfl ⟨rfl, rfl⟩ rfl rfl Tryd.func28 rfl rfl rfl rfl rfl rfl PassH.nil ?_
                rintro _ _ ⟨rfl, rfl⟩
                refine ⟨_, _, rfl, rfl, ?_⟩
                refine ad_run (fuel := 1) (ds' := ⟨#[true, true, true, true, true, true, true, true, true, true, false], false, true, false⟩) tt_ok [(5, 0)] (by kernel_rfl) rfl (by simp only [inB, inI64, fitB, GTy.zero, Bool.and_eq_true, Bool.or_eq_true, Bool.not_eq_true', Bool.and_true, Bool.true_and, Bool.or_true, Bool.true_or, decide_eq_true_eq, decide_eq_false_iff_not, true_and, and_true]; omega) ?_
                refine ad_ready (by kernel_rfl) (ads_cons (i := 10) ?_ ads_nil)
                refine ado_of rfl ?_
                refine adx_call (i := 10) (listed' := #[true, true, true, true, true, true, true, true, true, true, true]) (pre' := false) [(1000000, 700009), (1000001, 9)] (move_ok o2 rk2 (seg at_ by_ (l.getD ((z.1 : Int)).toNat 0)) (by_.getD (l.getD ((z.1 : Int)).toNat 0).toNat 0) (capLess none (l.getD ((z.1 : Int)).toNat 0).toNat) hg1 (by omega) (by omega) (by omega) (fun k hk => by have := hg3 k hk; omega) hpb2.2) rfl rfl rfl rfl ⟨rfl, rfl⟩ rfl Tryd.func27 rfl rfl rfl rfl rfl rfl (PassH.cons rfl rfl rfl (PassH.cons rfl rfl rfl PassH.nil)) ?_
                rintro _ _ ⟨rfl, rfl⟩
                refine ⟨_, _, rfl, rfl, ?_⟩
                refine ad_done (by kernel_rfl) ?_
                refine ⟨rfl, nx, hnx, [], Wk.sub SubL.nil (SubH.cons rfl rfl (SubH.cons rfl rfl (SubH.cons rfl rfl SubH.nil)))⟩
              ·
                have hst3 : stepUp at_ by_ (o2, rk2) (l.getD ((z.1 : Int)).toNat 0) = (o2, rk2) := by
                  rw [stepUp, if_neg (by simpa [GTy.zero] using hc29)]
                let nx : List OpT × Int := (o2, rk2)
                have hnx : Exit.normal = Exit.normal ∧ nx = (pre ++ [z]).foldl (fun p i => stepUp at_ by_ p (l.getD ((i.1 : Int)).toNat 0)) (o, rk) ∧ PB (40 + (pre ++ [z]).length) nx := by
                  refine ⟨rfl, by rw [hfold2, hst3], ?_⟩
                  rw [hst3] at hpb3
                  rw [List.length_append, List.length_singleton]
                  exact hpb3
                refine ax_skip ?_
                refine ⟨rfl, nx, hnx, [], Wk.sub SubL.nil (SubH.cons rfl rfl (SubH.cons rfl rfl (SubH.cons rfl rfl SubH.nil)))⟩
            ·
              rintro xs ⟨o2, rk2⟩ hS ⟨-, hfold, hpb2⟩
              have hxl : xs.length = l.length := by
                have := congrArg List.length (show xs.map (·.1) = (List.range l.length).reverse from hS)
                simpa using this
              have hp2 : (o2, rk2) = l.reverse.foldl (stepUp at_ by_) (o, rk) := by
                rw [hfold]
                have e1 : xs.foldl (fun p i => stepUp at_ by_ p (l.getD ((i.1 : Int)).toNat 0)) (o, rk) = (xs.map (·.1)).foldl (fun p i => stepUp at_ by_ p (l.getD i 0)) (o, rk) := by
                  rw [List.foldl_map]
                  rfl
                have e2 : l.reverse = (List.range l.length).reverse.map (fun i => l.getD i 0) := by
                  rw [List.map_reverse]
                  congr 1
                  apply List.ext_getElem
                  · simp
                  · intro i h1 h2
                    simp [List.getD_eq_getElem?_getD, List.getElem?_eq_getElem h1]
                rw [e1, show xs.map (·.1) = (List.range l.length).reverse from hS, e2, List.foldl_map]
              have hpb3 : PB 80 (o2, rk2) := hpb2.mono (by omega)
              refine ax_seq ?_
              refine ax_seq ?_
              refine ax_region ?_
              refine al_run tt_ok rfl rfl ?_
              refine ax_block ?_
              refine ax_weak (st' := ⟨[(143, _), (9, _), (10, _), (11, _), (14, _), (141, _), (142, _)], [(700009, _), (9, _), (700014, _)]⟩) (Wk.sub (SubL.cons rfl (SubL.cons rfl (SubL.cons rfl (SubL.cons rfl (SubL.cons rfl (SubL.cons rfl (SubL.cons rfl SubL.nil))))))) (SubH.cons rfl rfl (SubH.cons rfl rfl (SubH.cons rfl rfl SubH.nil)))) ?_
              refine ax_loopL (fun y : Int × (List OpT × Int) => [(143, .c (.val (.int .i64 y.1)))]) (fun y : Int × (List OpT × Int) => [(700009, .cells 79 [.sl 9, .val (.int .i64 y.2.2)]), (9, .row 45 gOp y.2.1 none)]) (fun y : Int × (List OpT × Int) => 0 ≤ y.1 ∧ y.1 ≤ l.length ∧ y.2 = (l.take y.1.toNat).foldl (stepDn at_ by_) (o2, rk2) ∧ PB (80 + y.1.toNat) y.2) (fun y : Int × (List OpT × Int) => (l.length - y.1).toNat) ((0, (o2, rk2))) (⟨by simp, by simp, rfl, hpb3⟩) ?_
              rintro ⟨i, ⟨o3, rk3⟩⟩ ⟨hi0, hi1, hfold3, hpb4⟩
              refine ax_seq ?_
              refine ax_region ?_
              refine al_run tt_ok rfl rfl ?_
              refine ax_seq ?_
              refine ax_cond rfl rfl (fun hc32 => ?_) (fun hc32 => ?_)
              ·
                refine ax_skip ?_
                refine ax_seq ?_
                refine ax_block ?_
                refine ax_seq ?_
                have hilt : i < l.length := by simpa using hc32
                dsimp only at hi0 hi1 hfold3 hpb4
                have hz := hlg i.toNat (by omega)
                obtain ⟨hz2, hz3⟩ := hz
                have htb := tog_bounds at_ by_ (l.getD i.toNat 0) hz3
                obtain ⟨hg1, hg2, hg3⟩ := seg_facts at_ by_ hsm _ hz2 hz3
                have hbs := by_small at_ by_ hsm (l.getD i.toNat 0).toNat
                have hpb5 := stepDn_PB at_ by_ hsm _ hz2 hz3 hpb4
                have hfold4 : (l.take (i + 1).toNat).foldl (stepDn at_ by_) (o2, rk2) = stepDn at_ by_ (o3, rk3) (l.getD i.toNat 0) := by rw [take_next _ _ hi0 hilt, List.foldl_append, ← hfold3]; rfl
                have hol2 := hpb4.1
                dsimp only at hol2
                refine ax_region ?_
                refine al_run tt_ok rfl (by simp only [inB, inI64, fitB, GTy.zero, Bool.and_eq_true, Bool.or_eq_true, Bool.not_eq_true', Bool.and_true, Bool.true_and, Bool.or_true, Bool.true_or, decide_eq_true_eq, decide_eq_false_iff_not, true_and, and_true]; omega) ?_
                refine ax_seq ?_
                refine ax_region ?_
                refine al_run tt_ok rfl (by simp only [inB, inI64, fitB, GTy.zero, Bool.and_eq_true, Bool.or_eq_true, Bool.not_eq_true', Bool.and_true, Bool.true_and, Bool.or_true, Bool.true_or, decide_eq_true_eq, decide_eq_false_iff_not, true_and, and_true]; omega) ?_
                refine ax_cond rfl rfl (fun hc34 => ?_) (fun hc34 => ?_)
                ·
                  have hst3 : stepDn at_ by_ (o3, rk3) (l.getD i.toNat 0) = moveAll o3 rk3 (seg at_ by_ (l.getD i.toNat 0)) (by_.getD (l.getD i.toNat 0).toNat 0) := by
                    rw [stepDn, if_pos (by simpa [GTy.zero] using hc34)]
                  let nx : Int × (List OpT × Int) := (i + 1, moveAll o3 rk3 (seg at_ by_ (l.getD i.toNat 0)) (by_.getD (l.getD i.toNat 0).toNat 0))
                  have hn1 : nx.1 = i + 1 := rfl
                  have hnx : 0 ≤ nx.1 ∧ nx.1 ≤ l.length ∧ nx.2 = (l.take nx.1.toNat).foldl (stepDn at_ by_) (o2, rk2) ∧ PB (80 + nx.1.toNat) nx.2 := by
                    refine ⟨by rw [hn1]; omega, by rw [hn1]; omega, ?_, ?_⟩
                    · rw [hn1, hfold4, hst3]
                    · rw [hst3] at hpb5
                      exact hpb5.mono (by rw [hn1]; omega)
                  refine ax_draw [3, 4, 5, 6, 7, 8, 9] (by kernel_rfl) rfl (N := 11) ?_
                  refine ad_run (fuel := 3) (ds' := ⟨#[true, true, true, true, false, false, true, true, true, true, false], true, true, true⟩) tt_ok [(0, 1), (1, 0), (2, 3), (3, 0), (6, 1), (7, 0), (8, 0), (9, 1)] (by kernel_rfl) rfl (by simp only [inB, inI64, fitB, GTy.zero, Bool.and_eq_true, Bool.or_eq_true, Bool.not_eq_true', Bool.and_true, Bool.true_and, Bool.or_true, Bool.true_or, decide_eq_true_eq, decide_eq_false_iff_not, true_and, and_true]; omega) ?_
                  refine ad_ready (by kernel_rfl) (ads_cons (i := 4) ?_ ads_nil)
                  refine ado_of rfl ?_
                  refine adx_callV (i := 4) (listed' := #[true, true, true, true, true, false, true, true, true, true, false]) (pre' := true) [] (tog_ok at_ by_ (l.getD i.toNat 0) hz2 hz3 hbl' (by omega)) rfl rfl rfl rfl ⟨rfl, rfl⟩ rfl rfl Tryd.func28 rfl rfl rfl rfl rfl rfl PassH.nil ?_
                  rintro _ _ ⟨rfl, rfl⟩
                  refine ⟨_, _, rfl, rfl, ?_⟩
                  refine ad_run (fuel := 1) (ds' := ⟨#[true, true, true, true, true, true, true, true, true, true, false], false, true, false⟩) tt_ok [(5, 0)] (by kernel_rfl) rfl (by simp only [inB, inI64, fitB, GTy.zero, Bool.and_eq_true, Bool.or_eq_true, Bool.not_eq_true', Bool.and_true, Bool.true_and, Bool.or_true, Bool.true_or, decide_eq_true_eq, decide_eq_false_iff_not, true_and, and_true]; omega) ?_
                  refine ad_ready (by kernel_rfl) (ads_cons (i := 10) ?_ ads_nil)
                  refine ado_of rfl ?_
                  refine adx_call (i := 10) (listed' := #[true, true, true, true, true, true, true, true, true, true, true]) (pre' := false) [(1000000, 700009), (1000001, 9)] (move_ok o3 rk3 (seg at_ by_ (l.getD i.toNat 0)) (by_.getD (l.getD i.toNat 0).toNat 0) (capLess none (l.getD i.toNat 0).toNat) hg1 (by omega) (by omega) (by omega) (fun k hk => by have := hg3 k hk; omega) hpb4.2) rfl rfl rfl rfl ⟨rfl, rfl⟩ rfl Tryd.func27 rfl rfl rfl rfl rfl rfl (PassH.cons rfl rfl rfl (PassH.cons rfl rfl rfl PassH.nil)) ?_
                  rintro _ _ ⟨rfl, rfl⟩
                  refine ⟨_, _, rfl, rfl, ?_⟩
                  refine ad_done (by kernel_rfl) ?_
                  refine ax_region ?_
                  refine al_run tt_ok rfl (by simp only [inB, inI64, fitB, GTy.zero, Bool.and_eq_true, Bool.or_eq_true, Bool.not_eq_true', Bool.and_true, Bool.true_and, Bool.or_true, Bool.true_or, decide_eq_true_eq, decide_eq_false_iff_not, true_and, and_true]; omega) ?_
                  refine ⟨nx, hnx, (by dsimp only; omega), Wk.sub (by repeat (first | exact SubL.nil | refine SubL.cons rfl ?_)) (SubH.cons rfl rfl (SubH.cons rfl rfl (SubH.cons rfl rfl SubH.nil)))⟩
                ·
                  have hst3 : stepDn at_ by_ (o3, rk3) (l.getD i.toNat 0) = (o3, rk3) := by
                    rw [stepDn, if_neg (by simpa [GTy.zero] using hc34)]
                  let nx : Int × (List OpT × Int) := (i + 1, (o3, rk3))
                  have hn1 : nx.1 = i + 1 := rfl
                  have hnx : 0 ≤ nx.1 ∧ nx.1 ≤ l.length ∧ nx.2 = (l.take nx.1.toNat).foldl (stepDn at_ by_) (o2, rk2) ∧ PB (80 + nx.1.toNat) nx.2 := by
                    refine ⟨by rw [hn1]; omega, by rw [hn1]; omega, ?_, ?_⟩
                    · rw [hn1, hfold4, hst3]
                    · rw [hst3] at hpb5
                      exact hpb5.mono (by rw [hn1]; omega)
                  refine ax_skip ?_
                  refine ax_region ?_
                  refine al_run tt_ok rfl (by simp only [inB, inI64, fitB, GTy.zero, Bool.and_eq_true, Bool.or_eq_true, Bool.not_eq_true', Bool.and_true, Bool.true_and, Bool.or_true, Bool.true_or, decide_eq_true_eq, decide_eq_false_iff_not, true_and, and_true]; omega) ?_
                  refine ⟨nx, hnx, (by dsimp only; omega), Wk.sub (by repeat (first | exact SubL.nil | refine SubL.cons rfl ?_)) (SubH.cons rfl rfl (SubH.cons rfl rfl (SubH.cons rfl rfl SubH.nil)))⟩
              ·
                refine ax_exit ?_
                refine ax_seq ?_
                dsimp only at hi0 hi1 hfold3 hpb4
                have hie : i = l.length := by
                  have h5 : ¬ i < l.length := by simpa using hc32
                  omega
                have hplan : planOf fr to = turnOps o3 rk3 0 := by
                  rw [planOf, hst']
                  have e3 : (o3, rk3) = (startsOf at_ by_).foldl (stepDn at_ by_) ((startsOf at_ by_).reverse.foldl (stepUp at_ by_) (o, rk)) := by
                    rw [hfold3, hie, hp2, ← hlst]
                    simp
                  show turnOps _ _ 0 = _
                  rw [← e3]
                have hol2 := hpb4.1
                dsimp only at hol2
                refine ax_region ?_
                refine al_call [(1000000, 700009), (1000001, 9)] (turn_ok o3 rk3 0 (by omega)) rfl ⟨rfl, rfl⟩ rfl Tryd.func30 rfl rfl rfl rfl rfl rfl (PassH.cons rfl rfl rfl (PassH.cons rfl rfl rfl PassH.nil)) ?_
                rintro _ _ ⟨rfl, rfl⟩
                refine ⟨_, _, rfl, rfl, ?_⟩
                refine al_run tt_ok rfl rfl ?_
                refine ax_seq ?_
                refine ax_weak (Wk.frz (id := 9) rfl) ?_
                refine ax_region ?_
                refine al_upto tt_ok rfl rfl ?_
                refine al_callP (clip_ok _ none) rfl ⟨rfl, rfl⟩ rfl Tryd.func31 rfl rfl rfl rfl rfl rfl ?_
                refine al_run tt_ok rfl rfl ?_
                refine ax_ret ?_
                refine ⟨rfl, _, Wk.sub (st' := ⟨[(4, _), (5, _)], []⟩) (SubL.cons rfl (SubL.cons rfl SubL.nil)) SubH.nil, _, _, rfl, rfl, ?_⟩
                have hto : ¬ chkTo to = false := by rw [ht]; simp
                rw [shiftR, if_neg hf', if_neg (by omega), if_neg hto, hplan]
                exact ⟨rfl, rfl⟩
            ·
              rintro e c xs y he - ⟨rfl, -⟩
              cases he
end Go.Proofs.YtihcolehefloeaaDoor
