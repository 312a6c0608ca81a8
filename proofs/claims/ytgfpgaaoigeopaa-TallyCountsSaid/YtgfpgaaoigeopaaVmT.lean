/- Facts about the types of the program. -/
import Derived.Test.YtgfpgaaoigeopaaProg
import Derived.Test.YtgfpgaaoigeopaaVmI
import Derived.ProofKit
namespace Go.Proofs.Ytgfpgaaoigeopaa.F
open Go.Vm
theorem sz1 : (Try.prog.info? 1).map (·.size) = some 1 := by kernel_rfl
theorem one1 : OneT Try.prog 1 := ⟨⟨_, Try.underlying1, rfl⟩, sz1⟩
theorem zero1 : (Try.prog.info? 1).bind (·.zero) = some (.nilFunc) := by kernel_rfl
theorem el1 : ElemT Try.prog 1 1 := elemT_of sz1 zero1 (by kernel_rfl) (by kernel_rfl)
theorem sz2 : (Try.prog.info? 2).map (·.size) = some 1 := by kernel_rfl
theorem one2 : OneT Try.prog 2 := ⟨⟨_, Try.underlying2, rfl⟩, sz2⟩
theorem zero2 : (Try.prog.info? 2).bind (·.zero) = some (.int .i64 0) := by kernel_rfl
theorem el2 : ElemT Try.prog 2 1 := elemT_of sz2 zero2 (by kernel_rfl) (by kernel_rfl)
theorem sz3 : (Try.prog.info? 3).map (·.size) = some 1 := by kernel_rfl
theorem one3 : OneT Try.prog 3 := ⟨⟨_, Try.underlying3, rfl⟩, sz3⟩
theorem zero3 : (Try.prog.info? 3).bind (·.zero) = some (.int .i64 0) := by kernel_rfl
theorem el3 : ElemT Try.prog 3 1 := elemT_of sz3 zero3 (by kernel_rfl) (by kernel_rfl)
theorem sz4 : (Try.prog.info? 4).map (·.size) = some 1 := by kernel_rfl
theorem one4 : OneT Try.prog 4 := ⟨⟨_, Try.underlying4, rfl⟩, sz4⟩
theorem zero4 : (Try.prog.info? 4).bind (·.zero) = some (.bool false) := by kernel_rfl
theorem el4 : ElemT Try.prog 4 1 := elemT_of sz4 zero4 (by kernel_rfl) (by kernel_rfl)
theorem sz5 : (Try.prog.info? 5).map (·.size) = some 1 := by kernel_rfl
theorem one5 : OneT Try.prog 5 := ⟨⟨_, Try.underlying5, rfl⟩, sz5⟩
theorem zero5 : (Try.prog.info? 5).bind (·.zero) = some (.int .u8 0) := by kernel_rfl
theorem el5 : ElemT Try.prog 5 1 := elemT_of sz5 zero5 (by kernel_rfl) (by kernel_rfl)
theorem sz6 : (Try.prog.info? 6).map (·.size) = some 1 := by kernel_rfl
theorem one6 : OneT Try.prog 6 := ⟨⟨_, Try.underlying6, rfl⟩, sz6⟩
theorem zero6 : (Try.prog.info? 6).bind (·.zero) = some (.int .u8 0) := by kernel_rfl
theorem el6 : ElemT Try.prog 6 1 := elemT_of sz6 zero6 (by kernel_rfl) (by kernel_rfl)
theorem sz7 : (Try.prog.info? 7).map (·.size) = some 4 := by kernel_rfl
theorem agg7 : AggT Try.prog 7 4 := ⟨⟨_, Try.underlying7, rfl⟩, sz7⟩
theorem zero7 : (Try.prog.info? 7).bind (·.zero) = some (.agg #[.int .i64 0, .int .i64 0, .bool false, .int .u8 0]) := by kernel_rfl
theorem el7 : ElemT Try.prog 7 4 := elemT_of sz7 zero7 (by kernel_rfl) (by kernel_rfl)
theorem sz8 : (Try.prog.info? 8).map (·.size) = some 4 := by kernel_rfl
theorem agg8 : AggT Try.prog 8 4 := ⟨⟨_, Try.underlying8, rfl⟩, sz8⟩
theorem zero8 : (Try.prog.info? 8).bind (·.zero) = some (.agg #[.int .i64 0, .int .i64 0, .bool false, .int .u8 0]) := by kernel_rfl
theorem el8 : ElemT Try.prog 8 4 := elemT_of sz8 zero8 (by kernel_rfl) (by kernel_rfl)
theorem sz9 : (Try.prog.info? 9).map (·.size) = some 1 := by kernel_rfl
theorem one9 : OneT Try.prog 9 := ⟨⟨_, Try.underlying9, rfl⟩, sz9⟩
theorem zero9 : (Try.prog.info? 9).bind (·.zero) = some (.string ByteArray.empty) := by kernel_rfl
theorem el9 : ElemT Try.prog 9 1 := elemT_of sz9 zero9 (by kernel_rfl) (by kernel_rfl)
theorem sz10 : (Try.prog.info? 10).map (·.size) = some 1 := by kernel_rfl
theorem one10 : OneT Try.prog 10 := ⟨⟨_, Try.underlying10, rfl⟩, sz10⟩
theorem zero10 : (Try.prog.info? 10).bind (·.zero) = some (.string ByteArray.empty) := by kernel_rfl
theorem el10 : ElemT Try.prog 10 1 := elemT_of sz10 zero10 (by kernel_rfl) (by kernel_rfl)
theorem sz11 : (Try.prog.info? 11).map (·.size) = some 1 := by kernel_rfl
theorem one11 : OneT Try.prog 11 := ⟨⟨_, Try.underlying11, rfl⟩, sz11⟩
theorem zero11 : (Try.prog.info? 11).bind (·.zero) = some (.string ByteArray.empty) := by kernel_rfl
theorem el11 : ElemT Try.prog 11 1 := elemT_of sz11 zero11 (by kernel_rfl) (by kernel_rfl)
theorem sz12 : (Try.prog.info? 12).map (·.size) = some 1 := by kernel_rfl
theorem one12 : OneT Try.prog 12 := ⟨⟨_, Try.underlying12, rfl⟩, sz12⟩
theorem zero12 : (Try.prog.info? 12).bind (·.zero) = some (.int .u64 0) := by kernel_rfl
theorem el12 : ElemT Try.prog 12 1 := elemT_of sz12 zero12 (by kernel_rfl) (by kernel_rfl)
theorem sz13 : (Try.prog.info? 13).map (·.size) = some 2 := by kernel_rfl
theorem agg13 : AggT Try.prog 13 2 := ⟨⟨_, Try.underlying13, rfl⟩, sz13⟩
theorem zero13 : (Try.prog.info? 13).bind (·.zero) = some (.agg #[.string ByteArray.empty, .int .u64 0]) := by kernel_rfl
theorem el13 : ElemT Try.prog 13 2 := elemT_of sz13 zero13 (by kernel_rfl) (by kernel_rfl)
theorem sz14 : (Try.prog.info? 14).map (·.size) = some 2 := by kernel_rfl
theorem agg14 : AggT Try.prog 14 2 := ⟨⟨_, Try.underlying14, rfl⟩, sz14⟩
theorem zero14 : (Try.prog.info? 14).bind (·.zero) = some (.agg #[.string ByteArray.empty, .int .u64 0]) := by kernel_rfl
theorem el14 : ElemT Try.prog 14 2 := elemT_of sz14 zero14 (by kernel_rfl) (by kernel_rfl)
theorem sz15 : (Try.prog.info? 15).map (·.size) = some 1 := by kernel_rfl
theorem one15 : OneT Try.prog 15 := ⟨⟨_, Try.underlying15, rfl⟩, sz15⟩
theorem zero15 : (Try.prog.info? 15).bind (·.zero) = some (.pointer none) := by kernel_rfl
theorem el15 : ElemT Try.prog 15 1 := elemT_of sz15 zero15 (by kernel_rfl) (by kernel_rfl)
theorem sz16 : (Try.prog.info? 16).map (·.size) = some 1 := by kernel_rfl
theorem one16 : OneT Try.prog 16 := ⟨⟨_, Try.underlying16, rfl⟩, sz16⟩
theorem zero16 : (Try.prog.info? 16).bind (·.zero) = some (.pointer none) := by kernel_rfl
theorem el16 : ElemT Try.prog 16 1 := elemT_of sz16 zero16 (by kernel_rfl) (by kernel_rfl)
theorem sz17 : (Try.prog.info? 17).map (·.size) = some 1 := by kernel_rfl
theorem one17 : OneT Try.prog 17 := ⟨⟨_, Try.underlying17, rfl⟩, sz17⟩
theorem zero17 : (Try.prog.info? 17).bind (·.zero) = some (.pointer none) := by kernel_rfl
theorem el17 : ElemT Try.prog 17 1 := elemT_of sz17 zero17 (by kernel_rfl) (by kernel_rfl)
theorem sz18 : (Try.prog.info? 18).map (·.size) = some 1 := by kernel_rfl
theorem agg18 : AggT Try.prog 18 1 := ⟨⟨_, Try.underlying18, rfl⟩, sz18⟩
theorem zero18 : (Try.prog.info? 18).bind (·.zero) = some (.agg #[.pointer none]) := by kernel_rfl
theorem el18 : ElemT Try.prog 18 1 := elemT_of sz18 zero18 (by kernel_rfl) (by kernel_rfl)
theorem sz19 : (Try.prog.info? 19).map (·.size) = some 1 := by kernel_rfl
theorem agg19 : AggT Try.prog 19 1 := ⟨⟨_, Try.underlying19, rfl⟩, sz19⟩
theorem zero19 : (Try.prog.info? 19).bind (·.zero) = some (.agg #[.pointer none]) := by kernel_rfl
theorem el19 : ElemT Try.prog 19 1 := elemT_of sz19 zero19 (by kernel_rfl) (by kernel_rfl)
theorem sz21 : (Try.prog.info? 21).map (·.size) = some 1 := by kernel_rfl
theorem one21 : OneT Try.prog 21 := ⟨⟨_, Try.underlying21, rfl⟩, sz21⟩
theorem zero21 : (Try.prog.info? 21).bind (·.zero) = some (.int .i32 0) := by kernel_rfl
theorem el21 : ElemT Try.prog 21 1 := elemT_of sz21 zero21 (by kernel_rfl) (by kernel_rfl)
theorem sz22 : (Try.prog.info? 22).map (·.size) = some 1 := by kernel_rfl
theorem one22 : OneT Try.prog 22 := ⟨⟨_, Try.underlying22, rfl⟩, sz22⟩
theorem zero22 : (Try.prog.info? 22).bind (·.zero) = some (.slice none 0 0) := by kernel_rfl
theorem el22 : ElemT Try.prog 22 1 := elemT_of sz22 zero22 (by kernel_rfl) (by kernel_rfl)
theorem sz23 : (Try.prog.info? 23).map (·.size) = some 1 := by kernel_rfl
theorem one23 : OneT Try.prog 23 := ⟨⟨_, Try.underlying23, rfl⟩, sz23⟩
theorem zero23 : (Try.prog.info? 23).bind (·.zero) = some (.int .u32 0) := by kernel_rfl
theorem el23 : ElemT Try.prog 23 1 := elemT_of sz23 zero23 (by kernel_rfl) (by kernel_rfl)
theorem sz24 : (Try.prog.info? 24).map (·.size) = some 4 := by kernel_rfl
theorem agg24 : AggT Try.prog 24 4 := ⟨⟨_, Try.underlying24, rfl⟩, sz24⟩
theorem zero24 : (Try.prog.info? 24).bind (·.zero) = some (.agg #[.int .u32 0, .int .u32 0, .int .u32 0, .int .u32 0]) := by kernel_rfl
theorem el24 : ElemT Try.prog 24 4 := elemT_of sz24 zero24 (by kernel_rfl) (by kernel_rfl)
theorem sz25 : (Try.prog.info? 25).map (·.size) = some 4 := by kernel_rfl
theorem agg25 : AggT Try.prog 25 4 := ⟨⟨_, Try.underlying25, rfl⟩, sz25⟩
theorem zero25 : (Try.prog.info? 25).bind (·.zero) = some (.agg #[.int .u32 0, .int .u32 0, .int .u32 0, .int .u32 0]) := by kernel_rfl
theorem el25 : ElemT Try.prog 25 4 := elemT_of sz25 zero25 (by kernel_rfl) (by kernel_rfl)
theorem sz26 : (Try.prog.info? 26).map (·.size) = some 1 := by kernel_rfl
theorem one26 : OneT Try.prog 26 := ⟨⟨_, Try.underlying26, rfl⟩, sz26⟩
theorem zero26 : (Try.prog.info? 26).bind (·.zero) = some (.nilFunc) := by kernel_rfl
theorem el26 : ElemT Try.prog 26 1 := elemT_of sz26 zero26 (by kernel_rfl) (by kernel_rfl)
theorem sz27 : (Try.prog.info? 27).map (·.size) = some 1 := by kernel_rfl
theorem one27 : OneT Try.prog 27 := ⟨⟨_, Try.underlying27, rfl⟩, sz27⟩
theorem zero27 : (Try.prog.info? 27).bind (·.zero) = some (.pointer none) := by kernel_rfl
theorem el27 : ElemT Try.prog 27 1 := elemT_of sz27 zero27 (by kernel_rfl) (by kernel_rfl)
theorem sz28 : (Try.prog.info? 28).map (·.size) = some 1 := by kernel_rfl
theorem one28 : OneT Try.prog 28 := ⟨⟨_, Try.underlying28, rfl⟩, sz28⟩
theorem zero28 : (Try.prog.info? 28).bind (·.zero) = some (.nilFunc) := by kernel_rfl
theorem el28 : ElemT Try.prog 28 1 := elemT_of sz28 zero28 (by kernel_rfl) (by kernel_rfl)
theorem sz29 : (Try.prog.info? 29).map (·.size) = some 1 := by kernel_rfl
theorem one29 : OneT Try.prog 29 := ⟨⟨_, Try.underlying29, rfl⟩, sz29⟩
theorem zero29 : (Try.prog.info? 29).bind (·.zero) = some (.nilFunc) := by kernel_rfl
theorem el29 : ElemT Try.prog 29 1 := elemT_of sz29 zero29 (by kernel_rfl) (by kernel_rfl)
theorem sz30 : (Try.prog.info? 30).map (·.size) = some 1 := by kernel_rfl
theorem one30 : OneT Try.prog 30 := ⟨⟨_, Try.underlying30, rfl⟩, sz30⟩
theorem zero30 : (Try.prog.info? 30).bind (·.zero) = some (.int .u64 0) := by kernel_rfl
theorem el30 : ElemT Try.prog 30 1 := elemT_of sz30 zero30 (by kernel_rfl) (by kernel_rfl)
theorem sz31 : (Try.prog.info? 31).map (·.size) = some 4 := by kernel_rfl
theorem agg31 : AggT Try.prog 31 4 := ⟨⟨_, Try.underlying31, rfl⟩, sz31⟩
theorem zero31 : (Try.prog.info? 31).bind (·.zero) = some (.agg #[.int .u32 0, .int .u32 0, .int .u64 0, .int .u64 0]) := by kernel_rfl
theorem el31 : ElemT Try.prog 31 4 := elemT_of sz31 zero31 (by kernel_rfl) (by kernel_rfl)
theorem sz32 : (Try.prog.info? 32).map (·.size) = some 4 := by kernel_rfl
theorem agg32 : AggT Try.prog 32 4 := ⟨⟨_, Try.underlying32, rfl⟩, sz32⟩
theorem zero32 : (Try.prog.info? 32).bind (·.zero) = some (.agg #[.int .u32 0, .int .u32 0, .int .u64 0, .int .u64 0]) := by kernel_rfl
theorem el32 : ElemT Try.prog 32 4 := elemT_of sz32 zero32 (by kernel_rfl) (by kernel_rfl)
theorem sz33 : (Try.prog.info? 33).map (·.size) = some 1 := by kernel_rfl
theorem one33 : OneT Try.prog 33 := ⟨⟨_, Try.underlying33, rfl⟩, sz33⟩
theorem zero33 : (Try.prog.info? 33).bind (·.zero) = some (.nilFunc) := by kernel_rfl
theorem el33 : ElemT Try.prog 33 1 := elemT_of sz33 zero33 (by kernel_rfl) (by kernel_rfl)
theorem sz34 : (Try.prog.info? 34).map (·.size) = some 1 := by kernel_rfl
theorem one34 : OneT Try.prog 34 := ⟨⟨_, Try.underlying34, rfl⟩, sz34⟩
theorem zero34 : (Try.prog.info? 34).bind (·.zero) = some (.nilFunc) := by kernel_rfl
theorem el34 : ElemT Try.prog 34 1 := elemT_of sz34 zero34 (by kernel_rfl) (by kernel_rfl)
theorem sz35 : (Try.prog.info? 35).map (·.size) = some 1 := by kernel_rfl
theorem one35 : OneT Try.prog 35 := ⟨⟨_, Try.underlying35, rfl⟩, sz35⟩
theorem zero35 : (Try.prog.info? 35).bind (·.zero) = some (.nilFunc) := by kernel_rfl
theorem el35 : ElemT Try.prog 35 1 := elemT_of sz35 zero35 (by kernel_rfl) (by kernel_rfl)
theorem sz36 : (Try.prog.info? 36).map (·.size) = some 1 := by kernel_rfl
theorem one36 : OneT Try.prog 36 := ⟨⟨_, Try.underlying36, rfl⟩, sz36⟩
theorem zero36 : (Try.prog.info? 36).bind (·.zero) = some (.nilFunc) := by kernel_rfl
theorem el36 : ElemT Try.prog 36 1 := elemT_of sz36 zero36 (by kernel_rfl) (by kernel_rfl)
theorem sz37 : (Try.prog.info? 37).map (·.size) = some 1 := by kernel_rfl
theorem one37 : OneT Try.prog 37 := ⟨⟨_, Try.underlying37, rfl⟩, sz37⟩
theorem zero37 : (Try.prog.info? 37).bind (·.zero) = some (.nilFunc) := by kernel_rfl
theorem el37 : ElemT Try.prog 37 1 := elemT_of sz37 zero37 (by kernel_rfl) (by kernel_rfl)
theorem sz38 : (Try.prog.info? 38).map (·.size) = some 1 := by kernel_rfl
theorem one38 : OneT Try.prog 38 := ⟨⟨_, Try.underlying38, rfl⟩, sz38⟩
theorem zero38 : (Try.prog.info? 38).bind (·.zero) = some (.nilFunc) := by kernel_rfl
theorem el38 : ElemT Try.prog 38 1 := elemT_of sz38 zero38 (by kernel_rfl) (by kernel_rfl)
theorem sz40 : (Try.prog.info? 40).map (·.size) = some 1 := by kernel_rfl
theorem one40 : OneT Try.prog 40 := ⟨⟨_, Try.underlying40, rfl⟩, sz40⟩
theorem zero40 : (Try.prog.info? 40).bind (·.zero) = some (.nilFunc) := by kernel_rfl
theorem el40 : ElemT Try.prog 40 1 := elemT_of sz40 zero40 (by kernel_rfl) (by kernel_rfl)
theorem sz41 : (Try.prog.info? 41).map (·.size) = some 1 := by kernel_rfl
theorem one41 : OneT Try.prog 41 := ⟨⟨_, Try.underlying41, rfl⟩, sz41⟩
theorem zero41 : (Try.prog.info? 41).bind (·.zero) = some (.nilFunc) := by kernel_rfl
theorem el41 : ElemT Try.prog 41 1 := elemT_of sz41 zero41 (by kernel_rfl) (by kernel_rfl)
theorem sz42 : (Try.prog.info? 42).map (·.size) = some 1 := by kernel_rfl
theorem one42 : OneT Try.prog 42 := ⟨⟨_, Try.underlying42, rfl⟩, sz42⟩
theorem zero42 : (Try.prog.info? 42).bind (·.zero) = some (.int .u64 0) := by kernel_rfl
theorem el42 : ElemT Try.prog 42 1 := elemT_of sz42 zero42 (by kernel_rfl) (by kernel_rfl)
theorem sz43 : (Try.prog.info? 43).map (·.size) = some 1 := by kernel_rfl
theorem one43 : OneT Try.prog 43 := ⟨⟨_, Try.underlying43, rfl⟩, sz43⟩
theorem zero43 : (Try.prog.info? 43).bind (·.zero) = some (.nilFunc) := by kernel_rfl
theorem el43 : ElemT Try.prog 43 1 := elemT_of sz43 zero43 (by kernel_rfl) (by kernel_rfl)
theorem sz44 : (Try.prog.info? 44).map (·.size) = some 1 := by kernel_rfl
theorem one44 : OneT Try.prog 44 := ⟨⟨_, Try.underlying44, rfl⟩, sz44⟩
theorem zero44 : (Try.prog.info? 44).bind (·.zero) = some (.nilFunc) := by kernel_rfl
theorem el44 : ElemT Try.prog 44 1 := elemT_of sz44 zero44 (by kernel_rfl) (by kernel_rfl)
theorem sz45 : (Try.prog.info? 45).map (·.size) = some 9 := by kernel_rfl
theorem agg45 : AggT Try.prog 45 9 := ⟨⟨_, Try.underlying45, rfl⟩, sz45⟩
theorem zero45 : (Try.prog.info? 45).bind (·.zero) = some (.agg #[.int .i64 0, .int .i64 0, .int .i64 0, .int .i64 0, .int .i64 0, .int .i64 0, .int .i64 0, .int .i64 0, .int .i64 0]) := by kernel_rfl
theorem el45 : ElemT Try.prog 45 9 := elemT_of sz45 zero45 (by kernel_rfl) (by kernel_rfl)
theorem sz46 : (Try.prog.info? 46).map (·.size) = some 81 := by kernel_rfl
theorem agg46 : AggT Try.prog 46 81 := ⟨⟨_, Try.underlying46, rfl⟩, sz46⟩
theorem zero46 : (Try.prog.info? 46).bind (·.zero) = some (.agg (List.replicate 81 (.int .i64 0)).toArray) := by kernel_rfl
theorem el46 : ElemT Try.prog 46 81 := elemT_of sz46 zero46 (by kernel_rfl) (by kernel_rfl)
theorem sz47 : (Try.prog.info? 47).map (·.size) = some 82 := by kernel_rfl
theorem agg47 : AggT Try.prog 47 82 := ⟨⟨_, Try.underlying47, rfl⟩, sz47⟩
theorem zero47 : (Try.prog.info? 47).bind (·.zero) = some (.agg (List.replicate 82 (.int .i64 0)).toArray) := by kernel_rfl
theorem el47 : ElemT Try.prog 47 82 := elemT_of sz47 zero47 (by kernel_rfl) (by kernel_rfl)
theorem sz48 : (Try.prog.info? 48).map (·.size) = some 82 := by kernel_rfl
theorem agg48 : AggT Try.prog 48 82 := ⟨⟨_, Try.underlying48, rfl⟩, sz48⟩
theorem zero48 : (Try.prog.info? 48).bind (·.zero) = some (.agg (List.replicate 82 (.int .i64 0)).toArray) := by kernel_rfl
theorem el48 : ElemT Try.prog 48 82 := elemT_of sz48 zero48 (by kernel_rfl) (by kernel_rfl)
theorem sz49 : (Try.prog.info? 49).map (·.size) = some 1 := by kernel_rfl
theorem one49 : OneT Try.prog 49 := ⟨⟨_, Try.underlying49, rfl⟩, sz49⟩
theorem zero49 : (Try.prog.info? 49).bind (·.zero) = some (.nilFunc) := by kernel_rfl
theorem el49 : ElemT Try.prog 49 1 := elemT_of sz49 zero49 (by kernel_rfl) (by kernel_rfl)
theorem sz50 : (Try.prog.info? 50).map (·.size) = some 1 := by kernel_rfl
theorem one50 : OneT Try.prog 50 := ⟨⟨_, Try.underlying50, rfl⟩, sz50⟩
theorem zero50 : (Try.prog.info? 50).bind (·.zero) = some (.nilFunc) := by kernel_rfl
theorem el50 : ElemT Try.prog 50 1 := elemT_of sz50 zero50 (by kernel_rfl) (by kernel_rfl)
theorem sz51 : (Try.prog.info? 51).map (·.size) = some 1 := by kernel_rfl
theorem one51 : OneT Try.prog 51 := ⟨⟨_, Try.underlying51, rfl⟩, sz51⟩
theorem zero51 : (Try.prog.info? 51).bind (·.zero) = some (.nilFunc) := by kernel_rfl
theorem el51 : ElemT Try.prog 51 1 := elemT_of sz51 zero51 (by kernel_rfl) (by kernel_rfl)
theorem sz52 : (Try.prog.info? 52).map (·.size) = some 1 := by kernel_rfl
theorem one52 : OneT Try.prog 52 := ⟨⟨_, Try.underlying52, rfl⟩, sz52⟩
theorem zero52 : (Try.prog.info? 52).bind (·.zero) = some (.nilFunc) := by kernel_rfl
theorem el52 : ElemT Try.prog 52 1 := elemT_of sz52 zero52 (by kernel_rfl) (by kernel_rfl)
theorem sz53 : (Try.prog.info? 53).map (·.size) = some 1 := by kernel_rfl
theorem one53 : OneT Try.prog 53 := ⟨⟨_, Try.underlying53, rfl⟩, sz53⟩
theorem zero53 : (Try.prog.info? 53).bind (·.zero) = some (.nilFunc) := by kernel_rfl
theorem el53 : ElemT Try.prog 53 1 := elemT_of sz53 zero53 (by kernel_rfl) (by kernel_rfl)
theorem sz54 : (Try.prog.info? 54).map (·.size) = some 1 := by kernel_rfl
theorem one54 : OneT Try.prog 54 := ⟨⟨_, Try.underlying54, rfl⟩, sz54⟩
theorem zero54 : (Try.prog.info? 54).bind (·.zero) = some (.nilFunc) := by kernel_rfl
theorem el54 : ElemT Try.prog 54 1 := elemT_of sz54 zero54 (by kernel_rfl) (by kernel_rfl)
theorem sz55 : (Try.prog.info? 55).map (·.size) = some 1 := by kernel_rfl
theorem one55 : OneT Try.prog 55 := ⟨⟨_, Try.underlying55, rfl⟩, sz55⟩
theorem zero55 : (Try.prog.info? 55).bind (·.zero) = some (.nilFunc) := by kernel_rfl
theorem el55 : ElemT Try.prog 55 1 := elemT_of sz55 zero55 (by kernel_rfl) (by kernel_rfl)
theorem sz56 : (Try.prog.info? 56).map (·.size) = some 1 := by kernel_rfl
theorem one56 : OneT Try.prog 56 := ⟨⟨_, Try.underlying56, rfl⟩, sz56⟩
theorem zero56 : (Try.prog.info? 56).bind (·.zero) = some (.nilFunc) := by kernel_rfl
theorem el56 : ElemT Try.prog 56 1 := elemT_of sz56 zero56 (by kernel_rfl) (by kernel_rfl)
theorem sz57 : (Try.prog.info? 57).map (·.size) = some 1 := by kernel_rfl
theorem one57 : OneT Try.prog 57 := ⟨⟨_, Try.underlying57, rfl⟩, sz57⟩
theorem zero57 : (Try.prog.info? 57).bind (·.zero) = some (.nilFunc) := by kernel_rfl
theorem el57 : ElemT Try.prog 57 1 := elemT_of sz57 zero57 (by kernel_rfl) (by kernel_rfl)
theorem sz58 : (Try.prog.info? 58).map (·.size) = some 1 := by kernel_rfl
theorem one58 : OneT Try.prog 58 := ⟨⟨_, Try.underlying58, rfl⟩, sz58⟩
theorem zero58 : (Try.prog.info? 58).bind (·.zero) = some (.nilFunc) := by kernel_rfl
theorem el58 : ElemT Try.prog 58 1 := elemT_of sz58 zero58 (by kernel_rfl) (by kernel_rfl)
theorem sz59 : (Try.prog.info? 59).map (·.size) = some 4 := by kernel_rfl
theorem agg59 : AggT Try.prog 59 4 := ⟨⟨_, Try.underlying59, rfl⟩, sz59⟩
theorem zero59 : (Try.prog.info? 59).bind (·.zero) = some (.agg #[.pointer none, .pointer none, .pointer none, .string ByteArray.empty]) := by kernel_rfl
theorem el59 : ElemT Try.prog 59 4 := elemT_of sz59 zero59 (by kernel_rfl) (by kernel_rfl)
theorem sz60 : (Try.prog.info? 60).map (·.size) = some 4 := by kernel_rfl
theorem agg60 : AggT Try.prog 60 4 := ⟨⟨_, Try.underlying60, rfl⟩, sz60⟩
theorem zero60 : (Try.prog.info? 60).bind (·.zero) = some (.agg #[.pointer none, .pointer none, .pointer none, .string ByteArray.empty]) := by kernel_rfl
theorem el60 : ElemT Try.prog 60 4 := elemT_of sz60 zero60 (by kernel_rfl) (by kernel_rfl)
theorem sz64 : (Try.prog.info? 64).map (·.size) = some 1 := by kernel_rfl
theorem one64 : OneT Try.prog 64 := ⟨⟨_, Try.underlying64, rfl⟩, sz64⟩
theorem zero64 : (Try.prog.info? 64).bind (·.zero) = some (.int .u8 0) := by kernel_rfl
theorem el64 : ElemT Try.prog 64 1 := elemT_of sz64 zero64 (by kernel_rfl) (by kernel_rfl)
theorem sz65 : (Try.prog.info? 65).map (·.size) = some 1 := by kernel_rfl
theorem one65 : OneT Try.prog 65 := ⟨⟨_, Try.underlying65, rfl⟩, sz65⟩
theorem zero65 : (Try.prog.info? 65).bind (·.zero) = some (.int .u8 0) := by kernel_rfl
theorem el65 : ElemT Try.prog 65 1 := elemT_of sz65 zero65 (by kernel_rfl) (by kernel_rfl)
theorem sz66 : (Try.prog.info? 66).map (·.size) = some 1 := by kernel_rfl
theorem one66 : OneT Try.prog 66 := ⟨⟨_, Try.underlying66, rfl⟩, sz66⟩
theorem zero66 : (Try.prog.info? 66).bind (·.zero) = some (.nilFunc) := by kernel_rfl
theorem el66 : ElemT Try.prog 66 1 := elemT_of sz66 zero66 (by kernel_rfl) (by kernel_rfl)
theorem sz67 : (Try.prog.info? 67).map (·.size) = some 1 := by kernel_rfl
theorem one67 : OneT Try.prog 67 := ⟨⟨_, Try.underlying67, rfl⟩, sz67⟩
theorem zero67 : (Try.prog.info? 67).bind (·.zero) = some (.pointer none) := by kernel_rfl
theorem el67 : ElemT Try.prog 67 1 := elemT_of sz67 zero67 (by kernel_rfl) (by kernel_rfl)
theorem sz68 : (Try.prog.info? 68).map (·.size) = some 1 := by kernel_rfl
theorem one68 : OneT Try.prog 68 := ⟨⟨_, Try.underlying68, rfl⟩, sz68⟩
theorem zero68 : (Try.prog.info? 68).bind (·.zero) = some (.int .i32 0) := by kernel_rfl
theorem el68 : ElemT Try.prog 68 1 := elemT_of sz68 zero68 (by kernel_rfl) (by kernel_rfl)
theorem sz69 : (Try.prog.info? 69).map (·.size) = some 1 := by kernel_rfl
theorem one69 : OneT Try.prog 69 := ⟨⟨_, Try.underlying69, rfl⟩, sz69⟩
theorem zero69 : (Try.prog.info? 69).bind (·.zero) = some (.int .i32 0) := by kernel_rfl
theorem el69 : ElemT Try.prog 69 1 := elemT_of sz69 zero69 (by kernel_rfl) (by kernel_rfl)
theorem sz70 : (Try.prog.info? 70).map (·.size) = some 11 := by kernel_rfl
theorem agg70 : AggT Try.prog 70 11 := ⟨⟨_, Try.underlying70, rfl⟩, sz70⟩
theorem zero70 : (Try.prog.info? 70).bind (·.zero) = some (.agg #[.int .u64 0, .int .u64 0, .int .u32 0, .int .u8 0, .int .u8 0, .int .u8 0, .int .u8 0, .nilFunc, .pointer none, .int .i32 0, .int .i32 0]) := by kernel_rfl
theorem el70 : ElemT Try.prog 70 11 := elemT_of sz70 zero70 (by kernel_rfl) (by kernel_rfl)
theorem sz71 : (Try.prog.info? 71).map (·.size) = some 11 := by kernel_rfl
theorem agg71 : AggT Try.prog 71 11 := ⟨⟨_, Try.underlying71, rfl⟩, sz71⟩
theorem zero71 : (Try.prog.info? 71).bind (·.zero) = some (.agg #[.int .u64 0, .int .u64 0, .int .u32 0, .int .u8 0, .int .u8 0, .int .u8 0, .int .u8 0, .nilFunc, .pointer none, .int .i32 0, .int .i32 0]) := by kernel_rfl
theorem el71 : ElemT Try.prog 71 11 := elemT_of sz71 zero71 (by kernel_rfl) (by kernel_rfl)
end Go.Proofs.Ytgfpgaaoigeopaa.F
