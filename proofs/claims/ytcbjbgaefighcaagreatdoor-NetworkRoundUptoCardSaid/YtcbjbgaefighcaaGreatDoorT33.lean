/- Part 33 of the proof. -/
import Derived.Test.YtcbjbgaefighcaaGreatDoorT0
import Derived.Test.YtcbjbgaefighcaaGreatDoorT7
import Derived.Test.YtcbjbgaefighcaaGreatDoorT27
import Derived.Test.YtcbjbgaefighcaaGreatDoorT28
import Derived.KernelRfl
import Derived.Test.YtcbjbgaefighcaaGreatDoorProg
set_option linter.all false
namespace Go.Proofs.YtcbjbgaefighcaaGreatDoor
open Go Go.Ax Go.Ax.K Go.Proofs
def C12:LC:=.seq (.ops [o 1 (.box 29 (t 0)),o 2 (mc (.bool false))])<|.seq (.seq (.ops [o 4 (fl 1 1),o 5 (ld 4),o 6 (ca 36 [t 5,.const (.int .i64 1000)]),o 7 (mv 6),gf 7 8 (fl 2 1),gf 7 9 (ld 8),gf 7 10 (le 9),gf 7 11 (bk .gtr 10 (100)),o 12 (po 7 11),o 13 (mv 12),gf 13 14 (fl 3 1),gf 13 15 (ld 14),gf 13 16 (le 15),gf 13 17 (bk .gtr 16 (100)),o 18 (po 13 17),o 19 (mv 18),gf 19 20 (fl 4 1),gf 19 21 (ld 20),gf 19 22 (ca 37 [t 21,.const (.int .i64 3000)]),o 23 (po 19 22),o 24 (mv 23),gf 24 25 (fl 5 1),gf 24 26 (ld 25),gf 24 27 (le 26),gf 24 28 (bk .gtr 27 (12)),o 29 (po 24 28)])<|.cond (t 29) (.seq (.ops [o 2 (mc (.bool true))])<|.ret)<|.skip)<|.seq (.seq (.ops [o 3 (mc (.int .i64 0))])<|.block 0<|.loop<|.seq (.seq (.ops [o 30 (mv 3),o 31 (fl 5 1),o 32 (ld 31),o 33 (le 32),o 34 (bn .lss 30 33)])<|.cond (t 34) (.skip)<|.exit 0)<|.seq (.block 1<|.seq (.ops [o 37 (fl 5 1),o 38 (ld 37),o 39 (mv 3),o 40 (ix 4 38 39),o 41 (la 4 40),o 42 (ca 38 [t 41])])<|.cond (t 42) (.seq (.ops [o 2 (mc (.bool true))])<|.ret)<|.skip)<|.ops [o 35 (mv 3),o 36 (bk .add 35 (1)),o 3 (mv 36)])<|.seq (.ops [o 2 (mc (.bool false))])<|.ret
theorem l12:Qa Tryz.prog 12=some ⟨43,false,[.tmp 2],C12⟩:=by kernel_rfl
def C13:LC:=.seq (.ops [o 1 (.box 29 (t 0)),⟨some 2,.alloc 29 [.string ⟨#[]⟩,.slice none 0 0,.slice none 0 0,.slice none 0 0,.slice none 0 0,.slice none 0 0],none⟩])<|.seq (.draw (
v 1 (o 10<|fl 1 1)<|w 2 (o 11<|ld 10)<|v 5 (o 14<|fl 2 1)<|w 6 (o 15<|ld 14)<|v 9 (o 18<|fl 3 1)<|w 10 (o 19<|ld 18)<|.eff ⟨some 9,.bslice 9 1 0 [.string ⟨#[]⟩] [],none⟩ [10,6,2] (
.eff (o 12 (.app 9 1 16 (t 9) (t 11))) [10,6] (
v 12 (o 21<|fl 1 1)<|.eff ⟨some 13,.bslice 88 4 0 [.string ⟨#[]⟩,.int .i64 0,.int .i64 0,.int .i64 0] [],none⟩ [10,6,2] (
.eff (o 16 (.app 88 4 40 (t 13) (t 15))) [10] (
.eff ⟨some 17,.bslice 90 3 0 [.string ⟨#[]⟩,.bool false,.bool false] [],none⟩ [10,6,2] (
.eff (o 20 (.app 90 3 24 (t 17) (t 19))) [] (
.eff (e (.store 1 (t 21) (t 12))) [] (
v 14 (o 22<|fl 2 1)<|.eff (e (.store 1 (t 22) (t 16))) [] (
v 16 (o 23<|fl 3 1)<|.eff (e (.store 1 (t 23) (t 20))) [] (
.done) (
.nil)) (
.nil)) (
.nil)) (
.nil)) (
.nil)) (
.eff ⟨some 17,.bslice 90 3 0 [.string ⟨#[]⟩,.bool false,.bool false] [],none⟩ [10,6,2] (
.eff (o 16 (.app 88 4 40 (t 13) (t 15))) [10] (
.eff (o 20 (.app 90 3 24 (t 17) (t 19))) [] (
.eff (e (.store 1 (t 21) (t 12))) [] (
v 14 (o 22<|fl 2 1)<|.eff (e (.store 1 (t 22) (t 16))) [] (
v 16 (o 23<|fl 3 1)<|.eff (e (.store 1 (t 23) (t 20))) [] (
.done) (
.nil)) (
.nil)) (
.nil)) (
.nil)) (
.nil)) (
.nil))) (
.eff ⟨some 17,.bslice 90 3 0 [.string ⟨#[]⟩,.bool false,.bool false] [],none⟩ [10,6,2] (
.eff ⟨some 13,.bslice 88 4 0 [.string ⟨#[]⟩,.int .i64 0,.int .i64 0,.int .i64 0] [],none⟩ [10,6,2] (
.eff (o 16 (.app 88 4 40 (t 13) (t 15))) [10] (
.eff (o 20 (.app 90 3 24 (t 17) (t 19))) [] (
.eff (e (.store 1 (t 21) (t 12))) [] (
v 14 (o 22<|fl 2 1)<|.eff (e (.store 1 (t 22) (t 16))) [] (
v 16 (o 23<|fl 3 1)<|.eff (e (.store 1 (t 23) (t 20))) [] (
.done) (
.nil)) (
.nil)) (
.nil)) (
.nil)) (
.nil)) (
.nil)) (
.nil))) (
.eff ⟨some 13,.bslice 88 4 0 [.string ⟨#[]⟩,.int .i64 0,.int .i64 0,.int .i64 0] [],none⟩ [10,6,2] (
.eff (o 12 (.app 9 1 16 (t 9) (t 11))) [10,6] (
v 12 (o 21<|fl 1 1)<|.eff (o 16 (.app 88 4 40 (t 13) (t 15))) [10] (
.eff ⟨some 17,.bslice 90 3 0 [.string ⟨#[]⟩,.bool false,.bool false] [],none⟩ [10,6,2] (
.eff (o 20 (.app 90 3 24 (t 17) (t 19))) [] (
.eff (e (.store 1 (t 21) (t 12))) [] (
v 14 (o 22<|fl 2 1)<|.eff (e (.store 1 (t 22) (t 16))) [] (
v 16 (o 23<|fl 3 1)<|.eff (e (.store 1 (t 23) (t 20))) [] (
.done) (
.nil)) (
.nil)) (
.nil)) (
.nil)) (
.nil)) (
.eff ⟨some 17,.bslice 90 3 0 [.string ⟨#[]⟩,.bool false,.bool false] [],none⟩ [10,6,2] (
.eff (o 16 (.app 88 4 40 (t 13) (t 15))) [10] (
.eff (o 20 (.app 90 3 24 (t 17) (t 19))) [] (
.eff (e (.store 1 (t 21) (t 12))) [] (
v 14 (o 22<|fl 2 1)<|.eff (e (.store 1 (t 22) (t 16))) [] (
v 16 (o 23<|fl 3 1)<|.eff (e (.store 1 (t 23) (t 20))) [] (
.done) (
.nil)) (
.nil)) (
.nil)) (
.nil)) (
.nil)) (
.nil))) (
.eff ⟨some 17,.bslice 90 3 0 [.string ⟨#[]⟩,.bool false,.bool false] [],none⟩ [10,6,2] (
.eff (o 12 (.app 9 1 16 (t 9) (t 11))) [10,6] (
v 12 (o 21<|fl 1 1)<|.eff (o 16 (.app 88 4 40 (t 13) (t 15))) [10] (
.eff (o 20 (.app 90 3 24 (t 17) (t 19))) [] (
.eff (e (.store 1 (t 21) (t 12))) [] (
v 14 (o 22<|fl 2 1)<|.eff (e (.store 1 (t 22) (t 16))) [] (
v 16 (o 23<|fl 3 1)<|.eff (e (.store 1 (t 23) (t 20))) [] (
.done) (
.nil)) (
.nil)) (
.nil)) (
.nil)) (
.nil)) (
.nil)) (
.nil))) (
.eff ⟨some 17,.bslice 90 3 0 [.string ⟨#[]⟩,.bool false,.bool false] [],none⟩ [10,6,2] (
.eff (o 12 (.app 9 1 16 (t 9) (t 11))) [10,6] (
v 12 (o 21<|fl 1 1)<|.eff ⟨some 13,.bslice 88 4 0 [.string ⟨#[]⟩,.int .i64 0,.int .i64 0,.int .i64 0] [],none⟩ [10,6,2] (
.eff (o 16 (.app 88 4 40 (t 13) (t 15))) [10] (
.eff (o 20 (.app 90 3 24 (t 17) (t 19))) [] (
.eff (e (.store 1 (t 21) (t 12))) [] (
v 14 (o 22<|fl 2 1)<|.eff (e (.store 1 (t 22) (t 16))) [] (
v 16 (o 23<|fl 3 1)<|.eff (e (.store 1 (t 23) (t 20))) [] (
.done) (
.nil)) (
.nil)) (
.nil)) (
.nil)) (
.nil)) (
.nil)) (
.eff ⟨some 13,.bslice 88 4 0 [.string ⟨#[]⟩,.int .i64 0,.int .i64 0,.int .i64 0] [],none⟩ [10,6,2] (
.eff (o 12 (.app 9 1 16 (t 9) (t 11))) [10,6] (
v 12 (o 21<|fl 1 1)<|.eff (o 16 (.app 88 4 40 (t 13) (t 15))) [10] (
.eff (o 20 (.app 90 3 24 (t 17) (t 19))) [] (
.eff (e (.store 1 (t 21) (t 12))) [] (
v 14 (o 22<|fl 2 1)<|.eff (e (.store 1 (t 22) (t 16))) [] (
v 16 (o 23<|fl 3 1)<|.eff (e (.store 1 (t 23) (t 20))) [] (
.done) (
.nil)) (
.nil)) (
.nil)) (
.nil)) (
.nil)) (
.nil)) (
.nil))) (
.nil)))) (
.eff ⟨some 13,.bslice 88 4 0 [.string ⟨#[]⟩,.int .i64 0,.int .i64 0,.int .i64 0] [],none⟩ [10,6,2] (
.eff ⟨some 9,.bslice 9 1 0 [.string ⟨#[]⟩] [],none⟩ [10,6,2] (
.eff (o 12 (.app 9 1 16 (t 9) (t 11))) [10,6] (
v 12 (o 21<|fl 1 1)<|.eff (o 16 (.app 88 4 40 (t 13) (t 15))) [10] (
.eff ⟨some 17,.bslice 90 3 0 [.string ⟨#[]⟩,.bool false,.bool false] [],none⟩ [10,6,2] (
.eff (o 20 (.app 90 3 24 (t 17) (t 19))) [] (
.eff (e (.store 1 (t 21) (t 12))) [] (
v 14 (o 22<|fl 2 1)<|.eff (e (.store 1 (t 22) (t 16))) [] (
v 16 (o 23<|fl 3 1)<|.eff (e (.store 1 (t 23) (t 20))) [] (
.done) (
.nil)) (
.nil)) (
.nil)) (
.nil)) (
.nil)) (
.eff ⟨some 17,.bslice 90 3 0 [.string ⟨#[]⟩,.bool false,.bool false] [],none⟩ [10,6,2] (
.eff (o 16 (.app 88 4 40 (t 13) (t 15))) [10] (
.eff (o 20 (.app 90 3 24 (t 17) (t 19))) [] (
.eff (e (.store 1 (t 21) (t 12))) [] (
v 14 (o 22<|fl 2 1)<|.eff (e (.store 1 (t 22) (t 16))) [] (
v 16 (o 23<|fl 3 1)<|.eff (e (.store 1 (t 23) (t 20))) [] (
.done) (
.nil)) (
.nil)) (
.nil)) (
.nil)) (
.nil)) (
.nil))) (
.eff ⟨some 17,.bslice 90 3 0 [.string ⟨#[]⟩,.bool false,.bool false] [],none⟩ [10,6,2] (
.eff (o 12 (.app 9 1 16 (t 9) (t 11))) [10,6] (
v 12 (o 21<|fl 1 1)<|.eff (o 16 (.app 88 4 40 (t 13) (t 15))) [10] (
.eff (o 20 (.app 90 3 24 (t 17) (t 19))) [] (
.eff (e (.store 1 (t 21) (t 12))) [] (
v 14 (o 22<|fl 2 1)<|.eff (e (.store 1 (t 22) (t 16))) [] (
v 16 (o 23<|fl 3 1)<|.eff (e (.store 1 (t 23) (t 20))) [] (
.done) (
.nil)) (
.nil)) (
.nil)) (
.nil)) (
.nil)) (
.nil)) (
.nil))) (
.eff ⟨some 17,.bslice 90 3 0 [.string ⟨#[]⟩,.bool false,.bool false] [],none⟩ [10,6,2] (
.eff ⟨some 9,.bslice 9 1 0 [.string ⟨#[]⟩] [],none⟩ [10,6,2] (
.eff (o 12 (.app 9 1 16 (t 9) (t 11))) [10,6] (
v 12 (o 21<|fl 1 1)<|.eff (o 16 (.app 88 4 40 (t 13) (t 15))) [10] (
.eff (o 20 (.app 90 3 24 (t 17) (t 19))) [] (
.eff (e (.store 1 (t 21) (t 12))) [] (
v 14 (o 22<|fl 2 1)<|.eff (e (.store 1 (t 22) (t 16))) [] (
v 16 (o 23<|fl 3 1)<|.eff (e (.store 1 (t 23) (t 20))) [] (
.done) (
.nil)) (
.nil)) (
.nil)) (
.nil)) (
.nil)) (
.nil)) (
.nil)) (
.nil))) (
.eff ⟨some 17,.bslice 90 3 0 [.string ⟨#[]⟩,.bool false,.bool false] [],none⟩ [10,6,2] (
.eff ⟨some 9,.bslice 9 1 0 [.string ⟨#[]⟩] [],none⟩ [10,6,2] (
.eff (o 12 (.app 9 1 16 (t 9) (t 11))) [10,6] (
v 12 (o 21<|fl 1 1)<|.eff ⟨some 13,.bslice 88 4 0 [.string ⟨#[]⟩,.int .i64 0,.int .i64 0,.int .i64 0] [],none⟩ [10,6,2] (
.eff (o 16 (.app 88 4 40 (t 13) (t 15))) [10] (
.eff (o 20 (.app 90 3 24 (t 17) (t 19))) [] (
.eff (e (.store 1 (t 21) (t 12))) [] (
v 14 (o 22<|fl 2 1)<|.eff (e (.store 1 (t 22) (t 16))) [] (
v 16 (o 23<|fl 3 1)<|.eff (e (.store 1 (t 23) (t 20))) [] (
.done) (
.nil)) (
.nil)) (
.nil)) (
.nil)) (
.nil)) (
.nil)) (
.eff ⟨some 13,.bslice 88 4 0 [.string ⟨#[]⟩,.int .i64 0,.int .i64 0,.int .i64 0] [],none⟩ [10,6,2] (
.eff (o 12 (.app 9 1 16 (t 9) (t 11))) [10,6] (
v 12 (o 21<|fl 1 1)<|.eff (o 16 (.app 88 4 40 (t 13) (t 15))) [10] (
.eff (o 20 (.app 90 3 24 (t 17) (t 19))) [] (
.eff (e (.store 1 (t 21) (t 12))) [] (
v 14 (o 22<|fl 2 1)<|.eff (e (.store 1 (t 22) (t 16))) [] (
v 16 (o 23<|fl 3 1)<|.eff (e (.store 1 (t 23) (t 20))) [] (
.done) (
.nil)) (
.nil)) (
.nil)) (
.nil)) (
.nil)) (
.nil)) (
.nil))) (
.eff ⟨some 13,.bslice 88 4 0 [.string ⟨#[]⟩,.int .i64 0,.int .i64 0,.int .i64 0] [],none⟩ [10,6,2] (
.eff ⟨some 9,.bslice 9 1 0 [.string ⟨#[]⟩] [],none⟩ [10,6,2] (
.eff (o 12 (.app 9 1 16 (t 9) (t 11))) [10,6] (
v 12 (o 21<|fl 1 1)<|.eff (o 16 (.app 88 4 40 (t 13) (t 15))) [10] (
.eff (o 20 (.app 90 3 24 (t 17) (t 19))) [] (
.eff (e (.store 1 (t 21) (t 12))) [] (
v 14 (o 22<|fl 2 1)<|.eff (e (.store 1 (t 22) (t 16))) [] (
v 16 (o 23<|fl 3 1)<|.eff (e (.store 1 (t 23) (t 20))) [] (
.done) (
.nil)) (
.nil)) (
.nil)) (
.nil)) (
.nil)) (
.nil)) (
.nil)) (
.nil))) (
.nil)))))<|.seq (.ops [o 24 (fl 4 1),o 25 (ld 24),o 26 (ca 39 [t 25]),o 27 (fl 4 1),e (.store 1 (t 27) (t 26))])<|.seq (.ops [o 3 (mc (.slice none 0 0))])<|.seq (.seq (.ops [o 4 (mc (.int .i64 0))])<|.block 0<|.loop<|.seq (.seq (.ops [o 28 (mv 4),o 29 (fl 5 1),o 30 (ld 29),o 31 (le 30),o 32 (bn .lss 28 31)])<|.cond (t 32) (.skip)<|.exit 0)<|.seq (.block 1<|.seq (.ops [o 35 (fl 5 1),o 36 (ld 35),o 37 (mv 4),o 38 (ix 4 36 37),o 39 (la 4 38),⟨some 5,.alloc 48 [.string ⟨#[]⟩,.string ⟨#[]⟩,.slice none 0 0,.slice none 0 0],none⟩,e (.store 4 (t 5) (t 39))])<|.seq (.ops [o 6 (mc (.slice none 0 0))])<|.seq (.seq (.ops [o 7 (mc (.int .i64 0))])<|.block 2<|.loop<|.seq (.seq (.ops [o 40 (mv 7),o 41 (fl 2 5),o 42 (ld 41),o 43 (le 42),o 44 (bn .lss 40 43)])<|.cond (t 44) (.skip)<|.exit 2)<|.seq (.block 3<|.seq (.ops [o 47 (fl 2 5),o 48 (ld 47),o 49 (mv 7),o 50 (ix 4 48 49),o 51 (la 4 50),⟨some 8,.alloc 97 [.string ⟨#[]⟩,.int .i64 0,.slice none 0 0,.int .i64 0],none⟩,e (.store 4 (t 8) (t 51))])<|.seq (.ops [⟨some 52,.bslice 179 4 0 [.string ⟨#[]⟩,.bool false,.bool false,.int .i64 0] [],none⟩,o 53 (fl 2 8),o 54 (ld 53),o 55 (.app 179 4 32 (t 52) (t 54)),o 56 (fl 2 8),e (.store 1 (t 56) (t 55))])<|.ops [o 57 (mv 6),o 58 (la 4 8),⟨some 59,.bslice 97 4 1 [.string ⟨#[]⟩,.int .i64 0,.slice none 0 0,.int .i64 0] [(0,t 58)],none⟩,o 60 (.app 97 4 56 (t 57) (t 59)),o 6 (mv 60)])<|.ops [o 45 (mv 7),o 46 (bk .add 45 (1)),o 7 (mv 46)])<|.seq (.ops [o 61 (mv 6),o 62 (fl 3 5),o 63 (ld 62),o 64 (ca 40 [t 63]),o 65 (fl 2 5),e (.store 1 (t 65) (t 61)),o 66 (fl 3 5),e (.store 1 (t 66) (t 64))])<|.ops [o 67 (mv 3),o 68 (la 4 5),⟨some 69,.bslice 48 4 1 [.string ⟨#[]⟩,.string ⟨#[]⟩,.slice none 0 0,.slice none 0 0] [(0,t 68)],none⟩,o 70 (.app 48 4 80 (t 67) (t 69)),o 3 (mv 70)])<|.ops [o 33 (mv 4),o 34 (bk .add 33 (1)),o 4 (mv 34)])<|.seq (.ops [o 71 (mv 3),o 72 (fl 5 1),e (.store 1 (t 72) (t 71))])<|.seq (.ops [o 73 (la 6 1),e (.store 6 (t 2) (t 73))])<|.ret
theorem l13:Qa Tryz.prog 13=some ⟨74,false,[.cell 2 6 true],C13⟩:=by kernel_rfl
def C19:LC:=.seq (.ops [o 2 (.box 42 (t 0)),o 4 (mc (.bool false))])<|.seq (.ops [o 5 (la 4 2),o 6 (mv 1),o 7 (ca 72 [t 5,t 6]),o 8 (bk .lss 7 (0)),o 4 (mv 8)])<|.ret
theorem l19:Qa Tryz.prog 19=some ⟨9,false,[.tmp 4],C19⟩:=by kernel_rfl
def C36:LC:=.seq (.ops [o 4 (mc (.bool false))])<|.seq (.ops [o 5 (mc (.int .i64 0))])<|.seq (.seq (.ops [o 6 (mc (.int .i64 0))])<|.block 0<|.loop<|.seq (.seq (.ops [o 7 (mv 6),o 8 (mv 0),o 9 (le 8),o 10 (bn .lss 7 9),o 11 (mv 10),gt 11 12 (mv 5),gt 11 13 (mv 1),gt 11 14 (bn .leq 12 13),o 15 (pa 11 14)])<|.cond (t 15) (.skip)<|.exit 0)<|.seq (.block 1<|.ops [o 18 (mv 5),o 19 (mv 0),o 20 (mv 6),o 21 (ix 1 19 20),o 22 (ld 21),o 23 (.lenOf .str (t 22)),o 24 (bn .add 18 23),o 5 (mv 24)])<|.ops [o 16 (mv 6),o 17 (bk .add 16 (1)),o 6 (mv 17)])<|.seq (.ops [o 25 (mv 5),o 26 (mv 1),o 27 (bn .gtr 25 26),o 28 (mv 27),gf 28 29 (mv 0),gf 28 30 (le 29),gf 28 31 (mv 1),gf 28 32 (bn .gtr 30 31),o 33 (po 28 32),o 4 (mv 33)])<|.ret
theorem l36:Qa Tryz.prog 36=some ⟨34,false,[.tmp 4],C36⟩:=by kernel_rfl
def C37:LC:=.seq (.ops [o 4 (mc (.bool false))])<|.seq (.ops [o 7 (mv 1),o 5 (mv 7)])<|.seq (.seq (.ops [o 6 (mc (.int .i64 0))])<|.block 0<|.loop<|.seq (.seq (.ops [o 8 (mv 6),o 9 (mv 0),o 10 (le 9),o 11 (bn .lss 8 10),o 12 (mv 11),gt 12 13 (mv 5),gt 12 14 (bk .geq 13 (0)),o 15 (pa 12 14)])<|.cond (t 15) (.skip)<|.exit 0)<|.seq (.block 1<|.seq (.seq (.ops [o 18 (mv 0),o 19 (mv 6),o 20 (ix 3 18 19),o 21 (fl 1 20),o 22 (ld 21),o 23 (mv 1),o 24 (ca 36 [t 22,t 23])])<|.cond (t 24) (.seq (.ops [o 4 (mc (.bool true))])<|.ret)<|.skip)<|.draw (
v 0 (o 25<|mv 0)<|v 1 (o 26<|mv 6)<|v 2 (o 27<|ix 3 25 26)<|v 3 (o 28<|fl 2 27)<|w 4 (o 29<|ld 28)<|v 5 (o 30<|mv 5)<|v 6 (o 31 (bk .sub 30 (1)))<|v 7 (o 32<|mv 0)<|v 8 (o 33<|mv 6)<|v 9 (o 34<|ix 3 32 33)<|v 10 (o 35<|fl 0 34)<|w 11 (o 36<|ld 35)<|v 12 (o 37 (.lenOf .str (t 36)))<|v 13 (o 38<|bn .sub 31 37)<|.eff (o 39<|ca 102 [t 29,t 38]) [] (
v 15 (o 5<|mv 39)<|.done) (
.nil)))<|.ops [o 16 (mv 6),o 17 (bk .add 16 (1)),o 6 (mv 17)])<|.seq (.ops [o 40 (mv 5),o 41 (bk .lss 40 (0)),o 4 (mv 41)])<|.ret
theorem l37:Qa Tryz.prog 37=some ⟨42,false,[.tmp 4],C37⟩:=by kernel_rfl
def C38:LC:=.seq (.ops [o 1 (.box 48 (t 0)),o 2 (mc (.bool false))])<|.seq (.seq (.ops [o 7 (fl 2 1),o 8 (ld 7),o 9 (le 8),o 10 (bk .gtr 9 (100)),o 11 (mv 10),gf 11 12 (fl 3 1),gf 11 13 (ld 12),gf 11 14 (le 13),gf 11 15 (bk .gtr 14 (100)),o 16 (po 11 15),o 17 (mv 16),gf 17 18 (fl 0 1),gf 17 19 (ld 18),gf 17 20 (.lenOf .str (t 19)),gf 17 21 (fl 1 1),gf 17 22 (ld 21),gf 17 23 (.lenOf .str (t 22)),gf 17 24 (bn .add 20 23),gf 17 25 (bk .gtr 24 (1000)),o 26 (po 17 25)])<|.cond (t 26) (.seq (.ops [o 2 (mc (.bool true))])<|.ret)<|.skip)<|.seq (.seq (.ops [o 3 (mc (.int .i64 0))])<|.block 0<|.loop<|.seq (.seq (.ops [o 27 (mv 3),o 28 (fl 2 1),o 29 (ld 28),o 30 (le 29),o 31 (bn .lss 27 30)])<|.cond (t 31) (.skip)<|.exit 0)<|.seq (.block 1<|.seq (.ops [o 34 (fl 2 1),o 35 (ld 34),o 36 (mv 3),o 37 (ix 4 35 36),o 38 (fl 2 37),o 39 (ld 38),o 40 (le 39),o 41 (bk .gtr 40 (50)),o 42 (mv 41),gf 42 43 (fl 2 1),gf 42 44 (ld 43),gf 42 45 (mv 3),gf 42 46 (ix 4 44 45),gf 42 47 (fl 0 46),gf 42 48 (ld 47),gf 42 49 (.lenOf .str (t 48)),gf 42 50 (bk .gtr 49 (1000)),o 51 (po 42 50)])<|.cond (t 51) (.seq (.ops [o 2 (mc (.bool true))])<|.ret)<|.skip)<|.ops [o 32 (mv 3),o 33 (bk .add 32 (1)),o 3 (mv 33)])<|.seq (.seq (.ops [o 4 (mc (.int .i64 0))])<|.block 2<|.loop<|.seq (.seq (.ops [o 52 (mv 4),o 53 (fl 3 1),o 54 (ld 53),o 55 (le 54),o 56 (bn .lss 52 55)])<|.cond (t 56) (.skip)<|.exit 2)<|.seq (.block 3<|.seq (.ops [o 59 (fl 3 1),o 60 (ld 59),o 61 (mv 4),o 62 (ix 13 60 61),o 63 (la 13 62),⟨some 5,.alloc 53 [.string ⟨#[]⟩,.string ⟨#[]⟩,.slice none 0 0,.int .i64 0,.string ⟨#[]⟩,.int .i64 0,.slice none 0 0,.string ⟨#[]⟩,.bool false,.slice none 0 0,.slice none 0 0,.int .i64 0,.int .i64 0],none⟩,e (.store 13 (t 5) (t 63))])<|.seq (.seq (.ops [o 64 (fl 2 5),o 65 (ld 64),o 66 (le 65),o 67 (bk .gtr 66 (50)),o 68 (mv 67),gf 68 69 (fl 9 5),gf 68 70 (ld 69),gf 68 71 (le 70),gf 68 72 (bk .gtr 71 (50)),o 73 (po 68 72),o 74 (mv 73),gf 74 75 (fl 10 5),gf 74 76 (ld 75),gf 74 77 (le 76),gf 74 78 (bk .gtr 77 (50)),o 79 (po 74 78),o 80 (mv 79),gf 80 81 (fl 3 5),gf 80 82 (la 4 81),gf 80 83 (ca 19 [t 82,.const (.int .i64 1000)]),o 84 (po 80 83)])<|.cond (t 84) (.seq (.ops [o 2 (mc (.bool true))])<|.ret)<|.skip)<|.seq (.ops [o 6 (mc (.int .i64 0))])<|.block 4<|.loop<|.seq (.seq (.ops [o 85 (mv 6),o 86 (fl 9 5),o 87 (ld 86),o 88 (le 87),o 89 (bn .lss 85 88)])<|.cond (t 89) (.skip)<|.exit 4)<|.seq (.block 5<|.seq (.ops [o 92 (fl 9 5),o 93 (ld 92),o 94 (mv 6),o 95 (ix 5 93 94),o 96 (fl 1 95),o 97 (la 4 96),o 98 (ca 19 [t 97,.const (.int .i64 1000)])])<|.cond (t 98) (.seq (.ops [o 2 (mc (.bool true))])<|.ret)<|.skip)<|.ops [o 90 (mv 6),o 91 (bk .add 90 (1)),o 6 (mv 91)])<|.ops [o 57 (mv 4),o 58 (bk .add 57 (1)),o 4 (mv 58)])<|.seq (.ops [o 2 (mc (.bool false))])<|.ret
theorem l38:Qa Tryz.prog 38=some ⟨99,false,[.tmp 2],C38⟩:=by kernel_rfl
def C39:LC:=.seq (.ops [o 2 (mc (.slice none 0 0))])<|.seq (.ops [o 3 (mc (.slice none 0 0))])<|.seq (.seq (.ops [o 4 (mc (.int .i64 0))])<|.block 0<|.loop<|.seq (.seq (.ops [o 5 (mv 4),o 6 (mv 0),o 7 (le 6),o 8 (bn .lss 5 7)])<|.cond (t 8) (.skip)<|.exit 0)<|.seq (.block 1<|.draw (
v 0 (o 11<|mv 3)<|v 1 (o 12<|mv 0)<|v 2 (o 13<|mv 4)<|v 3 (o 14<|ix 3 12 13)<|v 4 (o 15<|fl 0 14)<|w 5 (o 16<|ld 15)<|v 7 (o 18<|mv 0)<|v 8 (o 19<|mv 4)<|v 9 (o 20<|ix 3 18 19)<|v 10 (o 21<|fl 1 20)<|w 11 (o 22<|ld 21)<|v 13 (o 24<|mv 0)<|v 14 (o 25<|mv 4)<|v 15 (o 26<|ix 3 24 25)<|v 16 (o 27<|fl 2 26)<|w 17 (o 28<|ld 27)<|.eff ⟨some 17,.bslice 9 1 0 [.string ⟨#[]⟩] [],none⟩ [17,11,5] (
.eff (o 23 (.app 9 1 16 (t 17) (t 22))) [17,5] (
.eff (o 29<|ca 103 [t 28]) [5] (
v 19 (⟨some 30,.build [.string ⟨#[]⟩,.slice none 0 0,.slice none 0 0] [(0,1,t 16),(1,1,t 23),(2,1,t 29)],none⟩)<|.eff ⟨some 31,.bslice 80 3 1 [.string ⟨#[]⟩,.slice none 0 0,.slice none 0 0] [(0,t 30)],none⟩ [] (
.eff (o 32 (.app 80 3 64 (t 11) (t 31))) [] (
v 22 (o 3<|mv 32)<|.done) (
.nil)) (
.nil)) (
.nil)) (
.nil)) (
.nil)))<|.ops [o 9 (mv 4),o 10 (bk .add 9 (1)),o 4 (mv 10)])<|.seq (.ops [o 33 (mv 3),o 2 (mv 33)])<|.ret
theorem l39:Qa Tryz.prog 39=some ⟨34,false,[.tmp 2],C39⟩:=by kernel_rfl
def C40:LC:=.seq (.ops [o 2 (mc (.slice none 0 0))])<|.seq (.ops [o 3 (mc (.slice none 0 0))])<|.seq (.seq (.ops [o 4 (mc (.int .i64 0))])<|.block 0<|.loop<|.seq (.seq (.ops [o 8 (mv 4),o 9 (mv 0),o 10 (le 9),o 11 (bn .lss 8 10)])<|.cond (t 11) (.skip)<|.exit 0)<|.seq (.block 1<|.seq (.ops [o 14 (mv 0),o 15 (mv 4),o 16 (ix 13 14 15),o 17 (la 13 16),⟨some 5,.alloc 53 [.string ⟨#[]⟩,.string ⟨#[]⟩,.slice none 0 0,.int .i64 0,.string ⟨#[]⟩,.int .i64 0,.slice none 0 0,.string ⟨#[]⟩,.bool false,.slice none 0 0,.slice none 0 0,.int .i64 0,.int .i64 0],none⟩,e (.store 13 (t 5) (t 17))])<|.seq (.draw (
v 1 (o 19<|fl 2 5)<|w 2 (o 20<|ld 19)<|v 5 (o 23<|fl 10 5)<|w 6 (o 24<|ld 23)<|v 8 (o 26<|fl 3 5)<|w 9 (o 27<|la 4 26)<|.eff ⟨some 18,.bslice 179 4 0 [.string ⟨#[]⟩,.bool false,.bool false,.int .i64 0] [],none⟩ [9,6,2] (
.eff (o 21 (.app 179 4 32 (t 18) (t 20))) [9,6] (
v 11 (o 29<|fl 2 5)<|.eff ⟨some 22,.bslice 163 2 0 [.string ⟨#[]⟩,.int .i64 0] [],none⟩ [9,6,2] (
.eff (o 25 (.app 163 2 24 (t 22) (t 24))) [9] (
.eff (o 28<|ca 104 [t 27]) [] (
.eff (e (.store 1 (t 29) (t 21))) [] (
v 13 (o 30<|fl 10 5)<|.eff (e (.store 1 (t 30) (t 25))) [] (
v 15 (o 31<|fl 3 5)<|.eff (e (.store 4 (t 31) (t 28))) [] (
.done) (
.nil)) (
.nil)) (
.nil)) (
.nil)) (
.nil)) (
.nil)) (
.eff ⟨some 22,.bslice 163 2 0 [.string ⟨#[]⟩,.int .i64 0] [],none⟩ [9,6,2] (
.eff (o 21 (.app 179 4 32 (t 18) (t 20))) [9,6] (
v 11 (o 29<|fl 2 5)<|.eff (o 25 (.app 163 2 24 (t 22) (t 24))) [9] (
.eff (o 28<|ca 104 [t 27]) [] (
.eff (e (.store 1 (t 29) (t 21))) [] (
v 13 (o 30<|fl 10 5)<|.eff (e (.store 1 (t 30) (t 25))) [] (
v 15 (o 31<|fl 3 5)<|.eff (e (.store 4 (t 31) (t 28))) [] (
.done) (
.nil)) (
.nil)) (
.nil)) (
.nil)) (
.nil)) (
.nil)) (
.nil))) (
.eff ⟨some 22,.bslice 163 2 0 [.string ⟨#[]⟩,.int .i64 0] [],none⟩ [9,6,2] (
.eff ⟨some 18,.bslice 179 4 0 [.string ⟨#[]⟩,.bool false,.bool false,.int .i64 0] [],none⟩ [9,6,2] (
.eff (o 21 (.app 179 4 32 (t 18) (t 20))) [9,6] (
v 11 (o 29<|fl 2 5)<|.eff (o 25 (.app 163 2 24 (t 22) (t 24))) [9] (
.eff (o 28<|ca 104 [t 27]) [] (
.eff (e (.store 1 (t 29) (t 21))) [] (
v 13 (o 30<|fl 10 5)<|.eff (e (.store 1 (t 30) (t 25))) [] (
v 15 (o 31<|fl 3 5)<|.eff (e (.store 4 (t 31) (t 28))) [] (
.done) (
.nil)) (
.nil)) (
.nil)) (
.nil)) (
.nil)) (
.nil)) (
.nil)) (
.nil))))<|.seq (.ops [o 6 (mc (.slice none 0 0))])<|.seq (.seq (.ops [o 7 (mc (.int .i64 0))])<|.block 2<|.loop<|.seq (.seq (.ops [o 32 (mv 7),o 33 (fl 9 5),o 34 (ld 33),o 35 (le 34),o 36 (bn .lss 32 35)])<|.cond (t 36) (.skip)<|.exit 2)<|.seq (.block 3<|.draw (
v 0 (o 39<|mv 6)<|v 1 (o 40<|fl 9 5)<|w 2 (o 41<|ld 40)<|v 3 (o 42<|mv 7)<|v 4 (o 43<|ix 5 41 42)<|v 5 (o 44<|fl 0 43)<|w 6 (o 45<|ld 44)<|v 7 (o 46<|fl 9 5)<|w 8 (o 47<|ld 46)<|v 9 (o 48<|mv 7)<|v 10 (o 49<|ix 5 47 48)<|v 11 (o 50<|fl 1 49)<|w 12 (o 51<|la 4 50)<|.eff (o 52<|ca 104 [t 51]) [6,2] (
v 14 (⟨some 53,.build [.string ⟨#[]⟩,.int .i64 0,.string ⟨#[]⟩,.int .i64 0,.slice none 0 0] [(0,1,t 45),(1,4,t 52)],none⟩)<|.eff ⟨some 54,.bslice 56 5 1 [.string ⟨#[]⟩,.int .i64 0,.string ⟨#[]⟩,.int .i64 0,.slice none 0 0] [(0,t 53)],none⟩ [] (
.eff (o 55 (.app 56 5 72 (t 39) (t 54))) [] (
v 17 (o 6<|mv 55)<|.done) (
.nil)) (
.nil)) (
.nil)))<|.ops [o 37 (mv 7),o 38 (bk .add 37 (1)),o 7 (mv 38)])<|.seq (.ops [o 56 (mv 6),o 57 (fl 9 5),e (.store 1 (t 57) (t 56))])<|.ops [o 58 (mv 3),o 59 (la 13 5),⟨some 60,.bslice 53 13 1 [.string ⟨#[]⟩,.string ⟨#[]⟩,.slice none 0 0,.int .i64 0,.string ⟨#[]⟩,.int .i64 0,.slice none 0 0,.string ⟨#[]⟩,.bool false,.slice none 0 0,.slice none 0 0,.int .i64 0,.int .i64 0] [(0,t 59)],none⟩,o 61 (.app 53 13 200 (t 58) (t 60)),o 3 (mv 61)])<|.ops [o 12 (mv 4),o 13 (bk .add 12 (1)),o 4 (mv 13)])<|.seq (.ops [o 62 (mv 3),o 2 (mv 62)])<|.ret
theorem l40:Qa Tryz.prog 40=some ⟨63,false,[.tmp 2],C40⟩:=by kernel_rfl
def C72:LC:=.seq (.ops [o 2 (.box 42 (t 0)),o 4 (mc (.int .i64 0))])<|.seq (.ops [o 6 (mv 1),o 7 (bk .sub 6 (1)),o 8 (fl 1 2),o 9 (ld 8),o 10 (.lenOf .str (t 9)),o 11 (bn .sub 7 10),o 1 (mv 11)])<|.seq (.seq (.ops [o 5 (mc (.int .i64 0))])<|.block 0<|.loop<|.seq (.seq (.ops [o 12 (mv 5),o 13 (fl 3 2),o 14 (ld 13),o 15 (le 14),o 16 (bn .lss 12 15),o 17 (mv 16),gt 17 18 (mv 1),gt 17 19 (bk .geq 18 (0)),o 20 (pa 17 19)])<|.cond (t 20) (.skip)<|.exit 0)<|.seq (.block 1<|.ops [o 23 (fl 3 2),o 24 (ld 23),o 25 (mv 5),o 26 (ix 4 24 25),o 27 (la 4 26),o 28 (mv 1),o 29 (ca 72 [t 27,t 28]),o 1 (mv 29)])<|.ops [o 21 (mv 5),o 22 (bk .add 21 (1)),o 5 (mv 22)])<|.seq (.ops [o 30 (mv 1),o 4 (mv 30)])<|.ret
theorem l72:Qa Tryz.prog 72=some ⟨31,false,[.tmp 4],C72⟩:=by kernel_rfl
def AC:LC:=.seq (.ops [o 4 (mc (.int .i64 0))])<|.seq (.seq (.ops [o 5 (mc (.int .i64 0))])<|.block 0<|.loop<|.seq (.seq (.ops [o 6 (mv 5),o 7 (mv 0),o 8 (le 7),o 9 (bn .lss 6 8),o 10 (mv 9),gt 10 11 (mv 1),gt 10 12 (bk .geq 11 (0)),o 13 (pa 10 12)])<|.cond (t 13) (.skip)<|.exit 0)<|.seq (.block 1<|.seq (.draw (
v 0 (o 16<|mv 0)<|v 1 (o 17<|mv 5)<|v 2 (o 18<|ix 8 16 17)<|v 3 (o 19<|fl 2 18)<|w 4 (o 20<|la 4 19)<|v 5 (o 21<|mv 1)<|v 6 (o 22 (bk .sub 21 (1)))<|v 7 (o 23<|mv 0)<|v 8 (o 24<|mv 5)<|v 9 (o 25<|ix 8 23 24)<|v 10 (o 26<|fl 1 25)<|w 11 (o 27<|ld 26)<|v 12 (o 28 (.lenOf .str (t 27)))<|v 13 (o 29<|bn .sub 22 28)<|.eff (o 30<|ca 72 [t 20,t 29]) [] (
v 15 (o 1<|mv 30)<|.done) (
.nil)))<|.seq (.ops [o 31 (mv 0),o 32 (mv 5),o 33 (ix 8 31 32),o 34 (fl 6 33),o 35 (ld 34),o 36 (mv 1),o 37 (ca 102 [t 35,t 36]),o 1 (mv 37)])<|.ops [o 38 (mv 0),o 39 (mv 5),o 40 (ix 8 38 39),o 41 (fl 7 40),o 42 (ld 41),o 43 (mv 1),o 44 (ca 102 [t 42,t 43]),o 1 (mv 44)])<|.ops [o 14 (mv 5),o 15 (bk .add 14 (1)),o 5 (mv 15)])<|.seq (.ops [o 45 (mv 1),o 4 (mv 45)])<|.ret
theorem l102:Qa Tryz.prog 102=some ⟨46,false,[.tmp 4],AC⟩:=by kernel_rfl
def AB:LC:=.seq (.ops [o 2 (mc (.slice none 0 0))])<|.seq (.ops [o 3 (mc (.slice none 0 0))])<|.seq (.seq (.ops [o 4 (mc (.int .i64 0))])<|.block 0<|.loop<|.seq (.seq (.ops [o 6 (mv 4),o 7 (mv 0),o 8 (le 7),o 9 (bn .lss 6 8)])<|.cond (t 9) (.skip)<|.exit 0)<|.seq (.block 1<|.seq (.ops [o 12 (mv 0),o 13 (mv 4),o 14 (ix 8 12 13),o 15 (la 8 14),⟨some 5,.alloc 175 [.int .i64 0,.string ⟨#[]⟩,.int .i64 0,.string ⟨#[]⟩,.int .i64 0,.slice none 0 0,.slice none 0 0,.slice none 0 0],none⟩,e (.store 8 (t 5) (t 15))])<|.seq (.draw (
v 0 (o 16<|fl 2 5)<|w 1 (o 17<|la 4 16)<|v 3 (o 19<|fl 6 5)<|w 4 (o 20<|ld 19)<|v 6 (o 22<|fl 7 5)<|w 7 (o 23<|ld 22)<|.eff (o 18<|ca 104 [t 17]) [7,4] (
v 9 (o 25<|fl 2 5)<|.eff (o 21<|ca 103 [t 20]) [7] (
.eff (o 24<|ca 103 [t 23]) [] (
.eff (e (.store 4 (t 25) (t 18))) [] (
v 11 (o 26<|fl 6 5)<|.eff (e (.store 1 (t 26) (t 21))) [] (
v 13 (o 27<|fl 7 5)<|.eff (e (.store 1 (t 27) (t 24))) [] (
.done) (
.nil)) (
.nil)) (
.nil)) (
.nil)) (
.nil)) (
.nil)))<|.ops [o 28 (mv 3),o 29 (la 8 5),⟨some 30,.bslice 175 8 1 [.int .i64 0,.string ⟨#[]⟩,.int .i64 0,.string ⟨#[]⟩,.int .i64 0,.slice none 0 0,.slice none 0 0,.slice none 0 0] [(0,t 29)],none⟩,o 31 (.app 175 8 128 (t 28) (t 30)),o 3 (mv 31)])<|.ops [o 10 (mv 4),o 11 (bk .add 10 (1)),o 4 (mv 11)])<|.seq (.ops [o 32 (mv 3),o 2 (mv 32)])<|.ret
theorem l103:Qa Tryz.prog 103=some ⟨33,false,[.tmp 2],AB⟩:=by kernel_rfl
def AA:LC:=.seq (.ops [o 1 (.box 42 (t 0)),⟨some 2,.alloc 42 [.int .i64 0,.string ⟨#[]⟩,.int .i64 0,.slice none 0 0],none⟩])<|.seq (.ops [o 3 (mc (.slice none 0 0))])<|.seq (.seq (.ops [o 4 (mc (.int .i64 0))])<|.block 0<|.loop<|.seq (.seq (.ops [o 5 (mv 4),o 6 (fl 3 1),o 7 (ld 6),o 8 (le 7),o 9 (bn .lss 5 8)])<|.cond (t 9) (.skip)<|.exit 0)<|.seq (.block 1<|.ops [o 12 (mv 3),o 13 (fl 3 1),o 14 (ld 13),o 15 (mv 4),o 16 (ix 4 14 15),o 17 (la 4 16),o 18 (ca 104 [t 17]),⟨some 19,.bslice 42 4 1 [.int .i64 0,.string ⟨#[]⟩,.int .i64 0,.slice none 0 0] [(0,t 18)],none⟩,o 20 (.app 42 4 56 (t 12) (t 19)),o 3 (mv 20)])<|.ops [o 10 (mv 4),o 11 (bk .add 10 (1)),o 4 (mv 11)])<|.seq (.ops [o 21 (mv 3),o 22 (fl 3 1),e (.store 1 (t 22) (t 21))])<|.seq (.ops [o 23 (la 4 1),e (.store 4 (t 2) (t 23))])<|.ret
theorem l104:Qa Tryz.prog 104=some ⟨24,false,[.cell 2 4 true],AA⟩:=by kernel_rfl
end Go.Proofs.YtcbjbgaefighcaaGreatDoor
namespace Go.Proofs.YtcbjbgaefighcaaGreatDoor
open Go Go.Ax Go.Proofs
mutual
def Y5:Exp→Exp→Bool
 | .mk k n i xs,.mk k2 n2 i2 ys=>k==k2&&(n==n2&&(i==i2&&W9 xs ys))
def W9:List Exp→List Exp→Bool
 |[],[]=>true
 |x::xs,y::ys=>Y5 x y&&W9 xs ys
 |_,_=>false
end
theorem WT:∀{xs ys:List Exp},W9 xs ys=Zn Y5 xs ys
 |[],[]=>rfl
 |x::xs,y::ys=>by simp only[W9,Zn,WT (xs:=xs)]
 |[],_::_=>rfl
 |_::_,[]=>rfl
mutual
def YM:Stmt→Stmt→Bool
 | .mk k n v b e,.mk k2 n2 v2 b2 e2=>k==k2&&(n==n2&&(Y5 v v2&&(UD b b2&&UD e e2)))
def UD:List Stmt→List Stmt→Bool
 |[],[]=>true
 |x::xs,y::ys=>YM x y&&UD xs ys
 |_,_=>false
end
theorem KU:∀{xs ys:List Stmt},UD xs ys=Zn YM xs ys
 |[],[]=>rfl
 |x::xs,y::ys=>by simp only[UD,Zn,KU (xs:=xs)]
 |[],_::_=>rfl
 |_::_,[]=>rfl
def Ur (a b:Test):Bool:=a.clock==b.clock&&(a.lower==b.lower&&(a.strict==b.strict&&a.c==b.c))
def WB (a b:Clear):Bool:=a.clock==b.clock&&a.tv==b.tv
def W4 (a b:Var):Bool:=a.name==b.name&&(a.low==b.low&&(a.high==b.high&&a.init==b.init))
def UZ (a b:Chan):Bool:=a.name==b.name&&(a.broadcast==b.broadcast&&a.urgent==b.urgent)
def Ut (a b:Assign):Bool:=a.name==b.name&&Y5 a.val b.val
def YZ (a b:Loc):Bool:=a.name==b.name&&(a.kind==b.kind&&(a.rate==b.rate&&Zn Ur a.inv b.inv))
def ZS (a b:Edge):Bool:=a.src==b.src&&(a.dst==b.dst&&(a.chan==b.chan&&(a.send==b.send&&(a.cost==b.cost&&(a.kind==b.kind&&(Zn Ur a.tests b.tests&&(Y5 a.cond b.cond&&(Zn Ut a.sets b.sets&&Zn WB a.clears b.clears))))))))
def YY (a b:Proc):Bool:=a.name==b.name&&(a.init==b.init&&(Zn YZ a.locs b.locs&&Zn ZS a.edges b.edges))
def Us (a b:Func):Bool:=a.name==b.name&&(Zn (fun a b=>a==b) a.params b.params&&Zn YM a.body b.body)
def Y4 (a b:Model):Bool:=a.name==b.name&&(Zn (fun a b=>a==b) a.clocks b.clocks&&(Zn W4 a.vars b.vars&&(Zn UZ a.chans b.chans&&(Zn Us a.funcs b.funcs&&Zn YY a.procs b.procs))))
section
variable (G:Nat→Option (List AV))
theorem l244:Qa Tryz.prog 244=some ⟨32,false,[.tmp 6],IG 4 42 [.int .i64 0,.string ⟨#[]⟩,.int .i64 0,.slice none 0 0]⟩:=by kernel_rfl
theorem Cf:Qa Tryz.prog 147=some ⟨32,false,[.tmp 6],IG 8 175 [.int .i64 0,.string ⟨#[]⟩,.int .i64 0,.string ⟨#[]⟩,.int .i64 0,.slice none 0 0,.slice none 0 0,.slice none 0 0]⟩:=by kernel_rfl
theorem l206:Qa Tryz.prog 206=some ⟨32,false,[.tmp 6],IG 5 56 [.string ⟨#[]⟩,.int .i64 0,.string ⟨#[]⟩,.int .i64 0,.slice none 0 0]⟩:=by kernel_rfl
theorem l149:Qa Tryz.prog 149=some ⟨32,false,[.tmp 6],IG 4 97 [.string ⟨#[]⟩,.int .i64 0,.slice none 0 0,.int .i64 0]⟩:=by kernel_rfl
theorem l151:Qa Tryz.prog 151=some ⟨32,false,[.tmp 6],IG 13 53 [.string ⟨#[]⟩,.string ⟨#[]⟩,.slice none 0 0,.int .i64 0,.string ⟨#[]⟩,.int .i64 0,.slice none 0 0,.string ⟨#[]⟩,.bool false,.slice none 0 0,.slice none 0 0,.int .i64 0,.int .i64 0]⟩:=by kernel_rfl
theorem l68:Qa Tryz.prog 68=some ⟨32,false,[.tmp 6],IG 3 80 [.string ⟨#[]⟩,.slice none 0 0,.slice none 0 0]⟩:=by kernel_rfl
theorem l70:Qa Tryz.prog 70=some ⟨32,false,[.tmp 6],IG 4 48 [.string ⟨#[]⟩,.string ⟨#[]⟩,.slice none 0 0,.slice none 0 0]⟩:=by kernel_rfl
theorem l65:Qa Tryz.prog 65=some ⟨26,false,[.tmp 4],HZ 1 false .num⟩:=by kernel_rfl
theorem l66:Qa Tryz.prog 66=some ⟨26,false,[.tmp 4],HZ 4 true (.struct [.s,.i,.i,.i])⟩:=by kernel_rfl
theorem l67:Qa Tryz.prog 67=some ⟨26,false,[.tmp 4],HZ 3 true (.struct [.s,.b,.b])⟩:=by kernel_rfl
theorem Ce:Qa Tryz.prog 205=some ⟨26,false,[.tmp 4],HZ 4 true (.struct [.s,.b,.b,.i])⟩:=by kernel_rfl
theorem l208:Qa Tryz.prog 208=some ⟨26,false,[.tmp 4],HZ 2 true (.struct [.s,.i])⟩:=by kernel_rfl
theorem Vp {C:Cx}{t:TypeId}{a b:List AV}{X:LC}{s:List Fr}{env:Qn}{A:Q2}(e0:env 0=.agg a)(e1:env 1=.agg b)
 (h:∀p q env B,env 2=.ptr p 0→env 3=.ptr q 0→B p=some (.cells a)→B q=some (.cells b)→QU A B→C.run X s env [] B):
 C.run (.seq (.ops [⟨some 2,.box t (.tmp 0),none⟩,⟨some 3,.box t (.tmp 1),none⟩,⟨some 4,.mv (.const (.bool false)),none⟩]) X) s env [] A:=by
 simp only[e0,e1,Q1,seval]
 intro p hp q hq
 obtain⟨hpq,hq⟩:=Q9 hq
 refine h p q _ _ rfl rfl ?_ (Q0 ..) (((QU.refl A).set hp (by simp)).set hq (by simp))
 rw[Q5 hpq.symm,Q0]
theorem Gv (a b:Exp){A:Q2}(h:Xl a):QB Tryz.prog G 204 [.agg a.cells,.agg b.cells] A (bo (Y5 a b)) A:=by
 generalize hn:SizeOf.sizeOf a=sz
 induction sz using Nat.strongRecOn generalizing a b A with
 |_ sz ih=>
 obtain⟨k,n,i,xs⟩:=a
 obtain⟨k2,n2,i2,ys⟩:=b
 simp only[Xl]at h
 refine Q4 l204 (fE rfl) ?_
 unfold Bx
 refine Vp rfl rfl fun p q env B e2 e3 hp hq hO=> ?_
 simp only[e2,e3,hp,hq,Exp.cells,Q1,seval]
 refine⟨fun h1=>⟨fun h2=>⟨fun h3=>Q3 (Ok G l244 rfl (xs:=xs) (ys:=ys) (enc:=Exp.cells) (p:=Y5) (fun⟨_,_,_,_⟩=>rfl) (fun⟨_,_,_,_⟩=>rfl) rfl rfl (Exp.cellsL_eq _) rfl (Exp.cellsL_eq _) (by omega) fun x hx y hy A=> ?_) ?_,
  fun h3=>Qc (by simp [Y5,h3]) hO⟩,fun h2=>Qc (by simp [Y5,h2]) hO⟩,fun h1=>Qc (by simp [Y5,h1]) hO⟩
 ·refine ih (SizeOf.sizeOf x) ?_ x y (Wv h.2.2 x hx) rfl
  have:=cY hx
  rw[←hn];simp only[Exp.mk.sizeOf_spec];omega
 ·simp only[Q1,seval]
  exact Qc (by simp [Y5,h1,h2,h3,WT]) hO
theorem k148 (a b:Stmt){A:Q2}(h:Kq a):QB Tryz.prog G 148 [.agg a.cells,.agg b.cells] A (bo (YM a b)) A:=by
 generalize hn:SizeOf.sizeOf a=sz
 induction sz using Nat.strongRecOn generalizing a b A with
 |_ sz ih=>
 obtain⟨k,n,v,b1,b2⟩:=a
 obtain⟨k2,n2,v2,c1,c2⟩:=b
 simp only[Kq]at h
 have hcv:v.cells.length=4:=by obtain⟨_,_,_,_⟩:=v;rfl
 have hcv2:v2.cells.length=4:=by obtain⟨_,_,_,_⟩:=v2;rfl
 have ih':∀bs cs:List Stmt,(SizeOf.sizeOf bs<sz)→bs.length<2^60→Wn bs→∀A,QB Tryz.prog G 147 [.slice 8 bs.length (Stmt.cellsL bs) none,.slice 8 cs.length (Stmt.cellsL cs) none,.func (.func 148) [] []] A (bo (UD bs cs)) A:=fun bs cs hs hl h A=>by
  rw[KU]
  refine Ok G Cf rfl (xs:=bs) (ys:=cs) (enc:=Stmt.cells) (p:=YM) (fun⟨_,_,⟨_,_,_,_⟩,_,_⟩=>rfl) (fun⟨_,_,⟨_,_,_,_⟩,_,_⟩=>rfl) rfl rfl (Stmt.cellsL_eq _) rfl (Stmt.cellsL_eq _) (by omega) fun x hx y hy A=> ?_
  refine ih (SizeOf.sizeOf x) ?_ x y (Uy h x hx) rfl
  have:=cY hx
  omega
 have i1:=ih' b1 c1 (by rw[←hn];simp only[Stmt.mk.sizeOf_spec];omega) (by omega) h.2.2.2.2.1
 have i2:=ih' b2 c2 (by rw[←hn];simp only[Stmt.mk.sizeOf_spec];omega) (by omega) h.2.2.2.2.2
 have i0:=fun A=>Gv G v v2 (A:=A) h.2.1
 clear ih ih'
 refine Q4 l148 (fE rfl) ?_
 unfold A8
 refine Vp rfl rfl fun p q env B e2 e3 hp hq hO=> ?_
 obtain⟨v0,v1,vi,vx⟩:=v
 obtain⟨w0,w1,wi,wx⟩:=v2
 simp only[Exp.cells]at i0
 simp only[Stmt.cells,Exp.cells,cF,cI]at hp hq
 simp only[e2,e3,hp,hq,Q1,seval]
 refine⟨fun h1=>⟨fun h2=>Q3 (i0 _) ?_,fun h2=>Qc (by simp [YM,h2]) hO⟩,fun h1=>Qc (by simp [YM,h1]) hO⟩
 cases g0:Y5 (.mk v0 v1 vi vx) (.mk w0 w1 wi wx)with
 |false=>
  simp only[e2,e3,hp,hq,Q1,seval]
  exact Qc (by simp [YM,g0]) hO
 |true=>
  simp only[e2,e3,hp,hq,Q1,seval]
  refine Q3 (i1 _) ?_
  cases g1:UD b1 c1 with
  |false=>
   simp only[e2,e3,hp,hq,Q1,seval]
   exact Qc (by simp [YM,g1]) hO
  |true=>
   simp only[e2,e3,hp,hq,Q1,seval]
   refine Q3 (i2 _) ?_
   simp only[e2,e3,hp,hq,Q1,seval]
   exact Qc (by simp [YM,h1,h2,g0,g1]) hO
theorem k207 (a b:Assign){A:Q2}(h:Xl a.val):QB Tryz.prog G 207 [.agg a.cells,.agg b.cells] A (bo (Ut a b)) A:=by
 obtain⟨n,v0,v1,vi,vx⟩:=a
 obtain⟨n2,w0,w1,wi,wx⟩:=b
 have i0:=fun A=>Gv G (.mk v0 v1 vi vx) (.mk w0 w1 wi wx) (A:=A) h
 refine Q4 l207 (fE rfl) ?_
 unfold Bw
 refine Vp rfl rfl fun p q env B e2 e3 hp hq hO=> ?_
 simp only[Exp.cells]at i0
 simp only[e2,e3,hp,hq,Assign.cells,Exp.cells,Q1,seval]
 refine⟨fun h1=>Q3 (i0 _) ?_,fun h1=>Qc (by simp [Ut,h1]) hO⟩
 simp only[Q1,seval]
 exact Qc (by simp [Ut,h1]) hO
theorem eqT {x y:Test}:Qh .neq (.struct [.s,.b,.b,.i]) (.agg x.cells) (.agg y.cells)=some (bo !(Ur x y)):=by
 obtain⟨a,b,c,d⟩:=x;obtain⟨a2,b2,c2,d2⟩:=y
 simp only[Ur,Test.cells,Qh,J6,if_true]
 cases a==a2 <;> cases b==b2 <;> cases c==c2 <;> cases d==d2 <;> rfl
theorem eqC {x y:Clear}:Qh .neq (.struct [.s,.i]) (.agg x.cells) (.agg y.cells)=some (bo !(WB x y)):=by
 obtain⟨a,b⟩:=x;obtain⟨a2,b2⟩:=y
 simp only[WB,Clear.cells,Qh,J6,if_true]
 cases a==a2 <;> cases b==b2 <;> rfl
theorem eqV {x y:Var}:Qh .neq (.struct [.s,.i,.i,.i]) (.agg x.cells) (.agg y.cells)=some (bo !(W4 x y)):=by
 obtain⟨a,b,c,d⟩:=x;obtain⟨a2,b2,c2,d2⟩:=y
 simp only[W4,Var.cells,Qh,J6,if_true]
 cases a==a2 <;> cases b==b2 <;> cases c==c2 <;> cases d==d2 <;> rfl
theorem Cz {x y:Chan}:Qh .neq (.struct [.s,.b,.b]) (.agg x.cells) (.agg y.cells)=some (bo !(UZ x y)):=by
 obtain⟨a,b,c⟩:=x;obtain⟨a2,b2,c2⟩:=y
 simp only[UZ,Chan.cells,Qh,J6,if_true]
 cases a==a2 <;> cases b==b2 <;> cases c==c2 <;> rfl
theorem k150 (a b:Loc){A:Q2}(h:ltL a):QB Tryz.prog G 150 [.agg a.cells,.agg b.cells] A (bo (YZ a b)) A:=by
 obtain⟨n,k,v,r⟩:=a
 obtain⟨n2,k2,v2,r2⟩:=b
 refine Q4 l150 (fE rfl) ?_
 unfold A7
 refine Vp rfl rfl fun p q env B e2 e3 hp hq hO=> ?_
 simp only[e2,e3,hp,hq,Loc.cells,Qr,Q1,seval]
 refine⟨fun h1=>⟨fun h2=>⟨fun h3=>Q3 (PL G Ce (xs:=v) (ys:=v2) (enc:=Test.cells) (p:=Ur) (fun _=>rfl) rfl rfl rfl rfl (by have:=h.2.1;simp only at this;omega) fun _ _=>eqT) ?_,
  fun h3=>Qc (by simp [YZ,h3]) hO⟩,fun h2=>Qc (by simp [YZ,h2]) hO⟩,fun h1=>Qc (by simp [YZ,h1]) hO⟩
 simp only[Q1,seval]
 exact Qc (by simp [YZ,h1,h2,h3]) hO
theorem k69 (a b:Func){A:Q2}(h:Og a):QB Tryz.prog G 69 [.agg a.cells,.agg b.cells] A (bo (Us a b)) A:=by
 obtain⟨n,ps,bs⟩:=a
 obtain⟨n2,ps2,bs2⟩:=b
 simp only[Og]at h
 refine Q4 l69 (fE rfl) ?_
 unfold C69
 refine Vp rfl rfl fun p q env B e2 e3 hp hq hO=> ?_
 simp only[Func.cells,Qr]at hp hq
 simp only[e2,e3,hp,hq,Q1,seval]
 refine⟨fun h1=>Q3 (Cg G l65 (xs:=ps) (ys:=ps2) rfl rfl rfl rfl (by omega)) ?_,fun h1=>Qc (by simp [Us,h1]) hO⟩
 cases g0:Zn (fun a b=>a==b) ps ps2 with
 |false=>
  simp only[e2,e3,hp,hq,Q1,seval]
  exact Qc (by simp [Us,g0]) hO
 |true=>
  simp only[e2,e3,hp,hq,Q1,seval]
  refine Q3 (Ok G Cf rfl (xs:=bs) (ys:=bs2) (enc:=Stmt.cells) (p:=YM) (fun⟨_,_,⟨_,_,_,_⟩,_,_⟩=>rfl) (fun⟨_,_,⟨_,_,_,_⟩,_,_⟩=>rfl) rfl rfl rfl rfl rfl (by omega) fun x hx y hy A=>k148 G x y (Uy h.2.2.2.2 x hx)) ?_
  simp only[Q1,seval]
  exact Qc (by simp [Us,h1,g0]) hO
theorem k152 (a b:Edge){A:Q2}(h:I3 a):QB Tryz.prog G 152 [.agg a.cells,.agg b.cells] A (bo (ZS a b)) A:=by
 obtain⟨n,d,ts,⟨v0,v1,vi,vx⟩,ch,sd,ss,cs,co,ki⟩:=a
 obtain⟨n2,d2,ts2,⟨w0,w1,wi,wx⟩,ch2,sd2,ss2,cs2,co2,ki2⟩:=b
 simp only[I3,Of]at h
 obtain⟨y1,y2,y3,y4,y5,y6,y7,y8,y9,y10⟩:=h
 have i0:=fun A=>Gv G (.mk v0 v1 vi vx) (.mk w0 w1 wi wx) (A:=A) y5.1
 simp only[Exp.cells]at i0
 refine Q4 l152 (fE rfl) ?_
 unfold A6
 refine Vp rfl rfl fun p q env B e2 e3 hp hq hO=> ?_
 simp only[Edge.cells,Exp.cells,Qr,cF,cI]at hp hq
 simp only[e2,e3,hp,hq,Q1,seval]
 refine⟨fun h1=>⟨fun h2=>⟨fun h3=>⟨fun h4=>⟨fun h5=>⟨fun h6=> ?_,fun h=>Qc (by simp [ZS,h]) hO⟩,fun h=>Qc (by simp [ZS,h]) hO⟩,fun h=>Qc (by simp [ZS,h]) hO⟩,fun h=>Qc (by simp [ZS,h]) hO⟩,fun h=>Qc (by simp [ZS,h]) hO⟩,fun h=>Qc (by simp [ZS,h]) hO⟩
 refine Q3 (PL G Ce (xs:=ts) (ys:=ts2) (enc:=Test.cells) (p:=Ur) (fun _=>rfl) rfl rfl rfl rfl (by omega) fun _ _=>eqT) ?_
 cases g0:Zn Ur ts ts2 with
 |false=>
  simp only[e2,e3,hp,hq,Q1,seval]
  exact Qc (by simp [ZS,g0]) hO
 |true=>
 simp only[e2,e3,hp,hq,Q1,seval]
 refine Q3 (i0 _) ?_
 cases g1:Y5 (.mk v0 v1 vi vx) (.mk w0 w1 wi wx)with
 |false=>
  simp only[e2,e3,hp,hq,Q1,seval]
  exact Qc (by simp [ZS,g1]) hO
 |true=>
 simp only[e2,e3,hp,hq,Q1,seval]
 refine Q3 (Ok G l206 rfl (xs:=ss) (ys:=ss2) (enc:=Assign.cells) (p:=Ut) (fun⟨_,_,_,_,_⟩=>rfl) (fun⟨_,_,_,_,_⟩=>rfl) rfl rfl rfl rfl rfl (by omega) fun x hx y hy A=>k207 G x y (y8 x hx).2.1) ?_
 cases g2:Zn Ut ss ss2 with
 |false=>
  simp only[e2,e3,hp,hq,Q1,seval]
  exact Qc (by simp [ZS,g2]) hO
 |true=>
 simp only[e2,e3,hp,hq,Q1,seval]
 refine Q3 (PL G l208 (xs:=cs) (ys:=cs2) (enc:=Clear.cells) (p:=WB) (fun _=>rfl) rfl rfl rfl rfl (by omega) fun _ _=>eqC) ?_
 simp only[Q1,seval]
 exact Qc (by simp [ZS,h1,h2,h3,h4,h5,h6,g0,g1,g2]) hO
theorem k71 (a b:Proc){A:Q2}(h:RL a):QB Tryz.prog G 71 [.agg a.cells,.agg b.cells] A (bo (YY a b)) A:=by
 obtain⟨n,i,ls,es⟩:=a
 obtain⟨n2,i2,ls2,es2⟩:=b
 obtain⟨y1,y2,y3,y4,y5,y6⟩:=h
 simp only at y1 y2 y3 y4 y5 y6
 refine Q4 l71 (fE rfl) ?_
 unfold C71
 refine Vp rfl rfl fun p q env B e2 e3 hp hq hO=> ?_
 simp only[Proc.cells,Qr]at hp hq
 simp only[e2,e3,hp,hq,Q1,seval]
 refine⟨fun h1=>⟨fun h2=>Q3 (Ok G l149 rfl (xs:=ls) (ys:=ls2) (enc:=Loc.cells) (p:=YZ) (fun _=>rfl) (fun _=>rfl) rfl rfl rfl rfl rfl (by omega) fun x hx y hy A=>k150 G x y (y4 x hx)) ?_,fun h=>Qc (by simp [YY,h]) hO⟩,fun h=>Qc (by simp [YY,h]) hO⟩
 cases g0:Zn YZ ls ls2 with
 |false=>
  simp only[e2,e3,hp,hq,Q1,seval]
  exact Qc (by simp [YY,g0]) hO
 |true=>
 simp only[e2,e3,hp,hq,Q1,seval]
 refine Q3 (Ok G l151 rfl (xs:=es) (ys:=es2) (enc:=Edge.cells) (p:=ZS) Edge.cells_len (fun x=>by obtain⟨_,_,_,co,_,_,_,_,_,_⟩:=x;obtain⟨_,_,_,_⟩:=co;rfl) rfl rfl rfl rfl rfl (by omega) fun x hx y hy A=>k152 G x y (y6 x hx)) ?_
 simp only[Q1,seval]
 exact Qc (by simp [YY,h1,h2,g0]) hO
theorem PJ (a b:Model){A:Q2}(h:LtM a):QB Tryz.prog G 18 [.agg a.cells,.agg b.cells] A (bo (Y4 a b)) A:=by
 obtain⟨n,cl,vs,ch,fs,ps⟩:=a
 obtain⟨n2,cl2,vs2,ch2,fs2,ps2⟩:=b
 obtain⟨y1,y2,y3,y4,y5,y6,y7,y8,y9,y10,y11,y12⟩:=h
 simp only at y1 y2 y3 y4 y5 y6 y7 y8 y9 y10 y11 y12
 refine Q4 l18 (fE rfl) ?_
 unfold C18
 refine Vp rfl rfl fun p q env B e2 e3 hp hq hO=> ?_
 simp only[Model.cells,Qr]at hp hq
 simp only[e2,e3,hp,hq,Q1,seval]
 refine⟨fun h1=>Q3 (Cg G l65 (xs:=cl) (ys:=cl2) rfl rfl rfl rfl (by omega)) ?_,fun h1=>Qc (by simp [Y4,h1]) hO⟩
 cases g0:Zn (fun a b=>a==b) cl cl2 with
 |false=>
  simp only[e2,e3,hp,hq,Q1,seval]
  exact Qc (by simp [Y4,g0]) hO
 |true=>
 simp only[e2,e3,hp,hq,Q1,seval]
 refine Q3 (PL G l66 (xs:=vs) (ys:=vs2) (enc:=Var.cells) (p:=W4) (fun _=>rfl) rfl rfl rfl rfl (by omega) fun _ _=>eqV) ?_
 cases g1:Zn W4 vs vs2 with
 |false=>
  simp only[e2,e3,hp,hq,Q1,seval]
  exact Qc (by simp [Y4,g1]) hO
 |true=>
 simp only[e2,e3,hp,hq,Q1,seval]
 refine Q3 (PL G l67 (xs:=ch) (ys:=ch2) (enc:=Chan.cells) (p:=UZ) (fun _=>rfl) rfl rfl rfl rfl (by omega) fun _ _=>Cz) ?_
 cases g2:Zn UZ ch ch2 with
 |false=>
  simp only[e2,e3,hp,hq,Q1,seval]
  exact Qc (by simp [Y4,g2]) hO
 |true=>
 simp only[e2,e3,hp,hq,Q1,seval]
 refine Q3 (Ok G l68 rfl (xs:=fs) (ys:=fs2) (enc:=Func.cells) (p:=Us) (fun _=>rfl) (fun _=>rfl) rfl rfl rfl rfl rfl (by omega) fun x hx y hy A=>k69 G x y (y9 x hx)) ?_
 cases g3:Zn Us fs fs2 with
 |false=>
  simp only[e2,e3,hp,hq,Q1,seval]
  exact Qc (by simp [Y4,g3]) hO
 |true=>
 simp only[e2,e3,hp,hq,Q1,seval]
 refine Q3 (Ok G l70 rfl (xs:=ps) (ys:=ps2) (enc:=Proc.cells) (p:=YY) (fun _=>rfl) (fun _=>rfl) rfl rfl rfl rfl rfl (by omega) fun x hx y hy A=>k71 G x y (y12 x hx)) ?_
 simp only[Q1,seval]
 exact Qc (by simp [Y4,h1,g0,g1,g2,g3]) hO
end
end Go.Proofs.YtcbjbgaefighcaaGreatDoor
