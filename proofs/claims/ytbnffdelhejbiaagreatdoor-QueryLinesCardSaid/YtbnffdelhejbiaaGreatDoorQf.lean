/- Facts of the types, by program. A part of the proof: no condition of mine beyond what each theorem states. -/
import Derived.Test.YtbnffdelhejbiaaGreatDoorMd
import Derived.Test.YtbnffdelhejbiaaGreatDoorProg
import Derived.KernelRfl

namespace Go.Tith
open Go.Proofs.Tryz
@[simp] theorem uid1 : prog.underlyingId 1 = 1 := by kernel_rfl
@[simp] theorem cof1 : prog.cellsOf 1 = 1 := by kernel_rfl
@[simp] theorem bof1 : prog.bytesOf 1 = 8 := by kernel_rfl
attribute [simp] underlying1
@[simp] theorem uid2 : prog.underlyingId 2 = 2 := by kernel_rfl
@[simp] theorem cof2 : prog.cellsOf 2 = 1 := by kernel_rfl
@[simp] theorem bof2 : prog.bytesOf 2 = 8 := by kernel_rfl
@[simp] theorem zer2 : zeroA prog 2 = some (.d (.int .i64 0)) := by kernel_rfl
attribute [simp] underlying2
@[simp] theorem uid3 : prog.underlyingId 3 = 3 := by kernel_rfl
@[simp] theorem cof3 : prog.cellsOf 3 = 1 := by kernel_rfl
@[simp] theorem bof3 : prog.bytesOf 3 = 8 := by kernel_rfl
@[simp] theorem zer3 : zeroA prog 3 = some (.d (.int .i64 0)) := by kernel_rfl
attribute [simp] underlying3
@[simp] theorem uid4 : prog.underlyingId 4 = 4 := by kernel_rfl
@[simp] theorem cof4 : prog.cellsOf 4 = 1 := by kernel_rfl
@[simp] theorem bof4 : prog.bytesOf 4 = 1 := by kernel_rfl
@[simp] theorem zer4 : zeroA prog 4 = some (.d (.bool false)) := by kernel_rfl
attribute [simp] underlying4
@[simp] theorem uid5 : prog.underlyingId 5 = 5 := by kernel_rfl
@[simp] theorem cof5 : prog.cellsOf 5 = 1 := by kernel_rfl
@[simp] theorem bof5 : prog.bytesOf 5 = 1 := by kernel_rfl
@[simp] theorem zer5 : zeroA prog 5 = some (.d (.int .u8 0)) := by kernel_rfl
attribute [simp] underlying5
@[simp] theorem uid6 : prog.underlyingId 6 = 5 := by kernel_rfl
@[simp] theorem cof6 : prog.cellsOf 6 = 1 := by kernel_rfl
@[simp] theorem bof6 : prog.bytesOf 6 = 1 := by kernel_rfl
@[simp] theorem zer6 : zeroA prog 6 = some (.d (.int .u8 0)) := by kernel_rfl
attribute [simp] underlying6
@[simp] theorem uid7 : prog.underlyingId 7 = 7 := by kernel_rfl
@[simp] theorem cof7 : prog.cellsOf 7 = 4 := by kernel_rfl
@[simp] theorem bof7 : prog.bytesOf 7 = 24 := by kernel_rfl
@[simp] theorem tys7 : tys prog 7 = [2, 3, 4, 6] := by kernel_rfl
@[simp] theorem eqt7 : eqT prog 7 = true := by kernel_rfl
@[simp] theorem zer7 : zeroA prog 7 = some (.d (.agg 7 [(.int .i64 0), (.int .i64 0), (.bool false), (.int .u8 0)])) := by kernel_rfl
attribute [simp] underlying7
@[simp] theorem uid8 : prog.underlyingId 8 = 7 := by kernel_rfl
@[simp] theorem cof8 : prog.cellsOf 8 = 4 := by kernel_rfl
@[simp] theorem bof8 : prog.bytesOf 8 = 24 := by kernel_rfl
@[simp] theorem tys8 : tys prog 8 = [2, 3, 4, 6] := by kernel_rfl
@[simp] theorem eqt8 : eqT prog 8 = true := by kernel_rfl
@[simp] theorem zer8 : zeroA prog 8 = some (.d (.agg 7 [(.int .i64 0), (.int .i64 0), (.bool false), (.int .u8 0)])) := by kernel_rfl
attribute [simp] underlying8
@[simp] theorem uid9 : prog.underlyingId 9 = 9 := by kernel_rfl
@[simp] theorem cof9 : prog.cellsOf 9 = 1 := by kernel_rfl
@[simp] theorem bof9 : prog.bytesOf 9 = 16 := by kernel_rfl
@[simp] theorem zer9 : zeroA prog 9 = some (.d (.str .empty)) := by kernel_rfl
attribute [simp] underlying9
@[simp] theorem uid10 : prog.underlyingId 10 = 9 := by kernel_rfl
@[simp] theorem cof10 : prog.cellsOf 10 = 1 := by kernel_rfl
@[simp] theorem bof10 : prog.bytesOf 10 = 16 := by kernel_rfl
@[simp] theorem zer10 : zeroA prog 10 = some (.d (.str .empty)) := by kernel_rfl
attribute [simp] underlying10
@[simp] theorem uid11 : prog.underlyingId 11 = 9 := by kernel_rfl
@[simp] theorem cof11 : prog.cellsOf 11 = 1 := by kernel_rfl
@[simp] theorem bof11 : prog.bytesOf 11 = 16 := by kernel_rfl
@[simp] theorem zer11 : zeroA prog 11 = some (.d (.str .empty)) := by kernel_rfl
attribute [simp] underlying11
@[simp] theorem uid12 : prog.underlyingId 12 = 12 := by kernel_rfl
@[simp] theorem cof12 : prog.cellsOf 12 = 1 := by kernel_rfl
@[simp] theorem bof12 : prog.bytesOf 12 = 8 := by kernel_rfl
@[simp] theorem zer12 : zeroA prog 12 = some (.d (.int .u64 0)) := by kernel_rfl
attribute [simp] underlying12
@[simp] theorem uid13 : prog.underlyingId 13 = 13 := by kernel_rfl
@[simp] theorem cof13 : prog.cellsOf 13 = 2 := by kernel_rfl
@[simp] theorem bof13 : prog.bytesOf 13 = 24 := by kernel_rfl
@[simp] theorem tys13 : tys prog 13 = [9, 12] := by kernel_rfl
@[simp] theorem zer13 : zeroA prog 13 = some (.d (.agg 13 [(.str .empty), (.int .u64 0)])) := by kernel_rfl
attribute [simp] underlying13
@[simp] theorem uid14 : prog.underlyingId 14 = 13 := by kernel_rfl
@[simp] theorem cof14 : prog.cellsOf 14 = 2 := by kernel_rfl
@[simp] theorem bof14 : prog.bytesOf 14 = 24 := by kernel_rfl
@[simp] theorem tys14 : tys prog 14 = [9, 12] := by kernel_rfl
@[simp] theorem zer14 : zeroA prog 14 = some (.d (.agg 13 [(.str .empty), (.int .u64 0)])) := by kernel_rfl
attribute [simp] underlying14
@[simp] theorem uid15 : prog.underlyingId 15 = 15 := by kernel_rfl
@[simp] theorem cof15 : prog.cellsOf 15 = 1 := by kernel_rfl
@[simp] theorem bof15 : prog.bytesOf 15 = 8 := by kernel_rfl
@[simp] theorem zer15 : zeroA prog 15 = some (.d .nil) := by kernel_rfl
attribute [simp] underlying15
@[simp] theorem uid16 : prog.underlyingId 16 = 16 := by kernel_rfl
@[simp] theorem cof16 : prog.cellsOf 16 = 1 := by kernel_rfl
@[simp] theorem bof16 : prog.bytesOf 16 = 8 := by kernel_rfl
@[simp] theorem zer16 : zeroA prog 16 = some (.d .nil) := by kernel_rfl
attribute [simp] underlying16
@[simp] theorem uid17 : prog.underlyingId 17 = 17 := by kernel_rfl
@[simp] theorem cof17 : prog.cellsOf 17 = 1 := by kernel_rfl
@[simp] theorem bof17 : prog.bytesOf 17 = 8 := by kernel_rfl
@[simp] theorem zer17 : zeroA prog 17 = some (.d .nil) := by kernel_rfl
attribute [simp] underlying17
@[simp] theorem uid18 : prog.underlyingId 18 = 18 := by kernel_rfl
@[simp] theorem cof18 : prog.cellsOf 18 = 1 := by kernel_rfl
@[simp] theorem bof18 : prog.bytesOf 18 = 8 := by kernel_rfl
@[simp] theorem tys18 : tys prog 18 = [17] := by kernel_rfl
@[simp] theorem eqt18 : eqT prog 18 = false := by kernel_rfl
@[simp] theorem zer18 : zeroA prog 18 = some (.d (.agg 18 [.nil])) := by kernel_rfl
attribute [simp] underlying18
@[simp] theorem uid19 : prog.underlyingId 19 = 18 := by kernel_rfl
@[simp] theorem cof19 : prog.cellsOf 19 = 1 := by kernel_rfl
@[simp] theorem bof19 : prog.bytesOf 19 = 8 := by kernel_rfl
@[simp] theorem tys19 : tys prog 19 = [17] := by kernel_rfl
@[simp] theorem eqt19 : eqT prog 19 = false := by kernel_rfl
@[simp] theorem zer19 : zeroA prog 19 = some (.d (.agg 18 [.nil])) := by kernel_rfl
attribute [simp] underlying19
@[simp] theorem uid20 : prog.underlyingId 20 = 20 := by kernel_rfl
@[simp] theorem cof20 : prog.cellsOf 20 = 1 := by kernel_rfl
@[simp] theorem bof20 : prog.bytesOf 20 = 16 := by kernel_rfl
attribute [simp] underlying20
@[simp] theorem uid21 : prog.underlyingId 21 = 21 := by kernel_rfl
@[simp] theorem cof21 : prog.cellsOf 21 = 1 := by kernel_rfl
@[simp] theorem bof21 : prog.bytesOf 21 = 4 := by kernel_rfl
@[simp] theorem zer21 : zeroA prog 21 = some (.d (.int .i32 0)) := by kernel_rfl
attribute [simp] underlying21
@[simp] theorem uid22 : prog.underlyingId 22 = 22 := by kernel_rfl
@[simp] theorem cof22 : prog.cellsOf 22 = 1 := by kernel_rfl
@[simp] theorem bof22 : prog.bytesOf 22 = 24 := by kernel_rfl
@[simp] theorem zer22 : zeroA prog 22 = some (.lst none 58 []) := by kernel_rfl
attribute [simp] underlying22
@[simp] theorem uid23 : prog.underlyingId 23 = 23 := by kernel_rfl
@[simp] theorem cof23 : prog.cellsOf 23 = 1 := by kernel_rfl
@[simp] theorem bof23 : prog.bytesOf 23 = 24 := by kernel_rfl
@[simp] theorem zer23 : zeroA prog 23 = some (.lst none 52 []) := by kernel_rfl
attribute [simp] underlying23
@[simp] theorem uid24 : prog.underlyingId 24 = 24 := by kernel_rfl
@[simp] theorem cof24 : prog.cellsOf 24 = 2 := by kernel_rfl
@[simp] theorem bof24 : prog.bytesOf 24 = 48 := by kernel_rfl
@[simp] theorem tys24 : tys prog 24 = [22, 23] := by kernel_rfl
@[simp] theorem eqt24 : eqT prog 24 = false := by kernel_rfl
@[simp] theorem zer24 : zeroA prog 24 = some (.agg 24 [(.lst none 58 []), (.lst none 52 [])]) := by kernel_rfl
attribute [simp] underlying24
@[simp] theorem uid25 : prog.underlyingId 25 = 24 := by kernel_rfl
@[simp] theorem cof25 : prog.cellsOf 25 = 2 := by kernel_rfl
@[simp] theorem bof25 : prog.bytesOf 25 = 48 := by kernel_rfl
@[simp] theorem tys25 : tys prog 25 = [22, 23] := by kernel_rfl
@[simp] theorem eqt25 : eqT prog 25 = false := by kernel_rfl
@[simp] theorem zer25 : zeroA prog 25 = some (.agg 24 [(.lst none 58 []), (.lst none 52 [])]) := by kernel_rfl
attribute [simp] underlying25
@[simp] theorem uid26 : prog.underlyingId 26 = 26 := by kernel_rfl
@[simp] theorem cof26 : prog.cellsOf 26 = 1 := by kernel_rfl
@[simp] theorem bof26 : prog.bytesOf 26 = 24 := by kernel_rfl
@[simp] theorem zer26 : zeroA prog 26 = some (.lst none 37 []) := by kernel_rfl
attribute [simp] underlying26
@[simp] theorem uid27 : prog.underlyingId 27 = 27 := by kernel_rfl
@[simp] theorem cof27 : prog.cellsOf 27 = 2 := by kernel_rfl
@[simp] theorem bof27 : prog.bytesOf 27 = 32 := by kernel_rfl
@[simp] theorem tys27 : tys prog 27 = [3, 26] := by kernel_rfl
@[simp] theorem eqt27 : eqT prog 27 = false := by kernel_rfl
@[simp] theorem zer27 : zeroA prog 27 = some (.agg 27 [(.d (.int .i64 0)), (.lst none 37 [])]) := by kernel_rfl
attribute [simp] underlying27
@[simp] theorem uid28 : prog.underlyingId 28 = 27 := by kernel_rfl
@[simp] theorem cof28 : prog.cellsOf 28 = 2 := by kernel_rfl
@[simp] theorem bof28 : prog.bytesOf 28 = 32 := by kernel_rfl
@[simp] theorem tys28 : tys prog 28 = [3, 26] := by kernel_rfl
@[simp] theorem eqt28 : eqT prog 28 = false := by kernel_rfl
@[simp] theorem zer28 : zeroA prog 28 = some (.agg 27 [(.d (.int .i64 0)), (.lst none 37 [])]) := by kernel_rfl
attribute [simp] underlying28
@[simp] theorem uid29 : prog.underlyingId 29 = 29 := by kernel_rfl
@[simp] theorem cof29 : prog.cellsOf 29 = 32 := by kernel_rfl
@[simp] theorem bof29 : prog.bytesOf 29 = 32 := by kernel_rfl
@[simp] theorem tys29 : tys prog 29 = List.replicate 32 5 := by kernel_rfl
@[simp] theorem eqt29 : eqT prog 29 = true := by kernel_rfl
@[simp] theorem zer29 : zeroA prog 29 = some (.d (.agg 29 (List.replicate 32 (.int .u8 0)))) := by kernel_rfl
attribute [simp] underlying29
@[simp] theorem uid30 : prog.underlyingId 30 = 29 := by kernel_rfl
@[simp] theorem cof30 : prog.cellsOf 30 = 32 := by kernel_rfl
@[simp] theorem bof30 : prog.bytesOf 30 = 32 := by kernel_rfl
@[simp] theorem tys30 : tys prog 30 = List.replicate 32 5 := by kernel_rfl
@[simp] theorem eqt30 : eqT prog 30 = true := by kernel_rfl
@[simp] theorem zer30 : zeroA prog 30 = some (.d (.agg 29 (List.replicate 32 (.int .u8 0)))) := by kernel_rfl
attribute [simp] underlying30
@[simp] theorem uid31 : prog.underlyingId 31 = 31 := by kernel_rfl
@[simp] theorem cof31 : prog.cellsOf 31 = 35 := by kernel_rfl
@[simp] theorem bof31 : prog.bytesOf 31 = 64 := by kernel_rfl
@[simp] theorem tys31 : tys prog 31 = [3, 3, 9, 30] := by kernel_rfl
@[simp] theorem eqt31 : eqT prog 31 = true := by kernel_rfl
@[simp] theorem zer31 : zeroA prog 31 = some (.d (.agg 31 [(.int .i64 0), (.int .i64 0), (.str .empty), (.agg 29 (List.replicate 32 (.int .u8 0)))])) := by kernel_rfl
attribute [simp] underlying31
@[simp] theorem uid32 : prog.underlyingId 32 = 31 := by kernel_rfl
@[simp] theorem cof32 : prog.cellsOf 32 = 35 := by kernel_rfl
@[simp] theorem bof32 : prog.bytesOf 32 = 64 := by kernel_rfl
@[simp] theorem tys32 : tys prog 32 = [3, 3, 9, 30] := by kernel_rfl
@[simp] theorem eqt32 : eqT prog 32 = true := by kernel_rfl
@[simp] theorem zer32 : zeroA prog 32 = some (.d (.agg 31 [(.int .i64 0), (.int .i64 0), (.str .empty), (.agg 29 (List.replicate 32 (.int .u8 0)))])) := by kernel_rfl
attribute [simp] underlying32
@[simp] theorem uid33 : prog.underlyingId 33 = 33 := by kernel_rfl
@[simp] theorem cof33 : prog.cellsOf 33 = 1 := by kernel_rfl
@[simp] theorem bof33 : prog.bytesOf 33 = 8 := by kernel_rfl
attribute [simp] underlying33
@[simp] theorem uid34 : prog.underlyingId 34 = 34 := by kernel_rfl
@[simp] theorem cof34 : prog.cellsOf 34 = 1 := by kernel_rfl
@[simp] theorem bof34 : prog.bytesOf 34 = 8 := by kernel_rfl
attribute [simp] underlying34
@[simp] theorem uid35 : prog.underlyingId 35 = 3 := by kernel_rfl
@[simp] theorem cof35 : prog.cellsOf 35 = 1 := by kernel_rfl
@[simp] theorem bof35 : prog.bytesOf 35 = 8 := by kernel_rfl
@[simp] theorem zer35 : zeroA prog 35 = some (.d (.int .i64 0)) := by kernel_rfl
attribute [simp] underlying35
@[simp] theorem uid36 : prog.underlyingId 36 = 36 := by kernel_rfl
@[simp] theorem cof36 : prog.cellsOf 36 = 35 := by kernel_rfl
@[simp] theorem bof36 : prog.bytesOf 36 = 56 := by kernel_rfl
@[simp] theorem tys36 : tys prog 36 = [30, 3, 3, 35] := by kernel_rfl
@[simp] theorem eqt36 : eqT prog 36 = true := by kernel_rfl
@[simp] theorem zer36 : zeroA prog 36 = some (.d (.agg 36 [(.agg 29 (List.replicate 32 (.int .u8 0))), (.int .i64 0), (.int .i64 0), (.int .i64 0)])) := by kernel_rfl
attribute [simp] underlying36
@[simp] theorem uid37 : prog.underlyingId 37 = 36 := by kernel_rfl
@[simp] theorem cof37 : prog.cellsOf 37 = 35 := by kernel_rfl
@[simp] theorem bof37 : prog.bytesOf 37 = 56 := by kernel_rfl
@[simp] theorem tys37 : tys prog 37 = [30, 3, 3, 35] := by kernel_rfl
@[simp] theorem eqt37 : eqT prog 37 = true := by kernel_rfl
@[simp] theorem zer37 : zeroA prog 37 = some (.d (.agg 36 [(.agg 29 (List.replicate 32 (.int .u8 0))), (.int .i64 0), (.int .i64 0), (.int .i64 0)])) := by kernel_rfl
attribute [simp] underlying37
@[simp] theorem uid38 : prog.underlyingId 38 = 38 := by kernel_rfl
@[simp] theorem cof38 : prog.cellsOf 38 = 70 := by kernel_rfl
@[simp] theorem bof38 : prog.bytesOf 38 = 120 := by kernel_rfl
@[simp] theorem tys38 : tys prog 38 = [35, 3, 9, 30, 37] := by kernel_rfl
@[simp] theorem eqt38 : eqT prog 38 = true := by kernel_rfl
@[simp] theorem zer38 : zeroA prog 38 = some (.d (.agg 38 [(.int .i64 0), (.int .i64 0), (.str .empty), (.agg 29 (List.replicate 32 (.int .u8 0))), (.agg 36 [(.agg 29 (List.replicate 32 (.int .u8 0))), (.int .i64 0), (.int .i64 0), (.int .i64 0)])])) := by kernel_rfl
attribute [simp] underlying38
@[simp] theorem uid39 : prog.underlyingId 39 = 38 := by kernel_rfl
@[simp] theorem cof39 : prog.cellsOf 39 = 70 := by kernel_rfl
@[simp] theorem bof39 : prog.bytesOf 39 = 120 := by kernel_rfl
@[simp] theorem tys39 : tys prog 39 = [35, 3, 9, 30, 37] := by kernel_rfl
@[simp] theorem eqt39 : eqT prog 39 = true := by kernel_rfl
@[simp] theorem zer39 : zeroA prog 39 = some (.d (.agg 38 [(.int .i64 0), (.int .i64 0), (.str .empty), (.agg 29 (List.replicate 32 (.int .u8 0))), (.agg 36 [(.agg 29 (List.replicate 32 (.int .u8 0))), (.int .i64 0), (.int .i64 0), (.int .i64 0)])])) := by kernel_rfl
attribute [simp] underlying39
@[simp] theorem uid40 : prog.underlyingId 40 = 40 := by kernel_rfl
@[simp] theorem cof40 : prog.cellsOf 40 = 1 := by kernel_rfl
@[simp] theorem bof40 : prog.bytesOf 40 = 8 := by kernel_rfl
attribute [simp] underlying40
@[simp] theorem uid41 : prog.underlyingId 41 = 41 := by kernel_rfl
@[simp] theorem cof41 : prog.cellsOf 41 = 1 := by kernel_rfl
@[simp] theorem bof41 : prog.bytesOf 41 = 8 := by kernel_rfl
attribute [simp] underlying41
@[simp] theorem uid43 : prog.underlyingId 43 = 43 := by kernel_rfl
@[simp] theorem cof43 : prog.cellsOf 43 = 1 := by kernel_rfl
@[simp] theorem bof43 : prog.bytesOf 43 = 8 := by kernel_rfl
attribute [simp] underlying43
@[simp] theorem uid45 : prog.underlyingId 45 = 45 := by kernel_rfl
@[simp] theorem cof45 : prog.cellsOf 45 = 1 := by kernel_rfl
@[simp] theorem bof45 : prog.bytesOf 45 = 8 := by kernel_rfl
attribute [simp] underlying45
@[simp] theorem uid47 : prog.underlyingId 47 = 47 := by kernel_rfl
@[simp] theorem cof47 : prog.cellsOf 47 = 1 := by kernel_rfl
@[simp] theorem bof47 : prog.bytesOf 47 = 8 := by kernel_rfl
attribute [simp] underlying47
@[simp] theorem uid49 : prog.underlyingId 49 = 49 := by kernel_rfl
@[simp] theorem cof49 : prog.cellsOf 49 = 1 := by kernel_rfl
@[simp] theorem bof49 : prog.bytesOf 49 = 8 := by kernel_rfl
attribute [simp] underlying49
@[simp] theorem uid50 : prog.underlyingId 50 = 50 := by kernel_rfl
@[simp] theorem cof50 : prog.cellsOf 50 = 1 := by kernel_rfl
@[simp] theorem bof50 : prog.bytesOf 50 = 8 := by kernel_rfl
attribute [simp] underlying50
@[simp] theorem uid51 : prog.underlyingId 51 = 51 := by kernel_rfl
@[simp] theorem cof51 : prog.cellsOf 51 = 2 := by kernel_rfl
@[simp] theorem bof51 : prog.bytesOf 51 = 32 := by kernel_rfl
@[simp] theorem tys51 : tys prog 51 = [9, 9] := by kernel_rfl
@[simp] theorem eqt51 : eqT prog 51 = true := by kernel_rfl
@[simp] theorem zer51 : zeroA prog 51 = some (.d (.agg 51 [(.str .empty), (.str .empty)])) := by kernel_rfl
attribute [simp] underlying51
@[simp] theorem uid52 : prog.underlyingId 52 = 51 := by kernel_rfl
@[simp] theorem cof52 : prog.cellsOf 52 = 2 := by kernel_rfl
@[simp] theorem bof52 : prog.bytesOf 52 = 32 := by kernel_rfl
@[simp] theorem tys52 : tys prog 52 = [9, 9] := by kernel_rfl
@[simp] theorem eqt52 : eqT prog 52 = true := by kernel_rfl
@[simp] theorem zer52 : zeroA prog 52 = some (.d (.agg 51 [(.str .empty), (.str .empty)])) := by kernel_rfl
attribute [simp] underlying52
@[simp] theorem uid53 : prog.underlyingId 53 = 53 := by kernel_rfl
@[simp] theorem cof53 : prog.cellsOf 53 = 1 := by kernel_rfl
@[simp] theorem bof53 : prog.bytesOf 53 = 8 := by kernel_rfl
attribute [simp] underlying53
@[simp] theorem uid54 : prog.underlyingId 54 = 54 := by kernel_rfl
@[simp] theorem cof54 : prog.cellsOf 54 = 1 := by kernel_rfl
@[simp] theorem bof54 : prog.bytesOf 54 = 8 := by kernel_rfl
attribute [simp] underlying54
@[simp] theorem uid55 : prog.underlyingId 55 = 55 := by kernel_rfl
@[simp] theorem cof55 : prog.cellsOf 55 = 1 := by kernel_rfl
@[simp] theorem bof55 : prog.bytesOf 55 = 8 := by kernel_rfl
attribute [simp] underlying55
@[simp] theorem uid56 : prog.underlyingId 56 = 56 := by kernel_rfl
@[simp] theorem cof56 : prog.cellsOf 56 = 1 := by kernel_rfl
@[simp] theorem bof56 : prog.bytesOf 56 = 8 := by kernel_rfl
attribute [simp] underlying56
@[simp] theorem uid57 : prog.underlyingId 57 = 57 := by kernel_rfl
@[simp] theorem cof57 : prog.cellsOf 57 = 3 := by kernel_rfl
@[simp] theorem bof57 : prog.bytesOf 57 = 24 := by kernel_rfl
@[simp] theorem tys57 : tys prog 57 = [3, 3, 3] := by kernel_rfl
@[simp] theorem eqt57 : eqT prog 57 = true := by kernel_rfl
@[simp] theorem zer57 : zeroA prog 57 = some (.d (.agg 57 [(.int .i64 0), (.int .i64 0), (.int .i64 0)])) := by kernel_rfl
attribute [simp] underlying57
@[simp] theorem uid58 : prog.underlyingId 58 = 57 := by kernel_rfl
@[simp] theorem cof58 : prog.cellsOf 58 = 3 := by kernel_rfl
@[simp] theorem bof58 : prog.bytesOf 58 = 24 := by kernel_rfl
@[simp] theorem tys58 : tys prog 58 = [3, 3, 3] := by kernel_rfl
@[simp] theorem eqt58 : eqT prog 58 = true := by kernel_rfl
@[simp] theorem zer58 : zeroA prog 58 = some (.d (.agg 57 [(.int .i64 0), (.int .i64 0), (.int .i64 0)])) := by kernel_rfl
attribute [simp] underlying58
@[simp] theorem uid59 : prog.underlyingId 59 = 59 := by kernel_rfl
@[simp] theorem cof59 : prog.cellsOf 59 = 1 := by kernel_rfl
@[simp] theorem bof59 : prog.bytesOf 59 = 8 := by kernel_rfl
attribute [simp] underlying59
@[simp] theorem uid60 : prog.underlyingId 60 = 60 := by kernel_rfl
@[simp] theorem cof60 : prog.cellsOf 60 = 1 := by kernel_rfl
@[simp] theorem bof60 : prog.bytesOf 60 = 8 := by kernel_rfl
attribute [simp] underlying60
@[simp] theorem uid62 : prog.underlyingId 62 = 62 := by kernel_rfl
@[simp] theorem cof62 : prog.cellsOf 62 = 1 := by kernel_rfl
@[simp] theorem bof62 : prog.bytesOf 62 = 8 := by kernel_rfl
attribute [simp] underlying62
@[simp] theorem uid63 : prog.underlyingId 63 = 63 := by kernel_rfl
@[simp] theorem cof63 : prog.cellsOf 63 = 1 := by kernel_rfl
@[simp] theorem bof63 : prog.bytesOf 63 = 8 := by kernel_rfl
attribute [simp] underlying63
@[simp] theorem uid64 : prog.underlyingId 64 = 64 := by kernel_rfl
@[simp] theorem cof64 : prog.cellsOf 64 = 1 := by kernel_rfl
@[simp] theorem bof64 : prog.bytesOf 64 = 8 := by kernel_rfl
attribute [simp] underlying64
@[simp] theorem uid65 : prog.underlyingId 65 = 65 := by kernel_rfl
@[simp] theorem cof65 : prog.cellsOf 65 = 1 := by kernel_rfl
@[simp] theorem bof65 : prog.bytesOf 65 = 24 := by kernel_rfl
@[simp] theorem zer65 : zeroA prog 65 = some (.lst none 9 []) := by kernel_rfl
attribute [simp] underlying65
@[simp] theorem uid66 : prog.underlyingId 66 = 66 := by kernel_rfl
@[simp] theorem cof66 : prog.cellsOf 66 = 1 := by kernel_rfl
@[simp] theorem bof66 : prog.bytesOf 66 = 8 := by kernel_rfl
attribute [simp] underlying66
@[simp] theorem uid67 : prog.underlyingId 67 = 67 := by kernel_rfl
@[simp] theorem cof67 : prog.cellsOf 67 = 1 := by kernel_rfl
@[simp] theorem bof67 : prog.bytesOf 67 = 8 := by kernel_rfl
attribute [simp] underlying67
@[simp] theorem uid68 : prog.underlyingId 68 = 68 := by kernel_rfl
@[simp] theorem cof68 : prog.cellsOf 68 = 1 := by kernel_rfl
@[simp] theorem bof68 : prog.bytesOf 68 = 8 := by kernel_rfl
attribute [simp] underlying68
@[simp] theorem uid70 : prog.underlyingId 70 = 70 := by kernel_rfl
@[simp] theorem cof70 : prog.cellsOf 70 = 1 := by kernel_rfl
@[simp] theorem bof70 : prog.bytesOf 70 = 8 := by kernel_rfl
attribute [simp] underlying70
@[simp] theorem uid71 : prog.underlyingId 71 = 71 := by kernel_rfl
@[simp] theorem cof71 : prog.cellsOf 71 = 1 := by kernel_rfl
@[simp] theorem bof71 : prog.bytesOf 71 = 8 := by kernel_rfl
attribute [simp] underlying71
@[simp] theorem uid72 : prog.underlyingId 72 = 72 := by kernel_rfl
@[simp] theorem cof72 : prog.cellsOf 72 = 1 := by kernel_rfl
@[simp] theorem bof72 : prog.bytesOf 72 = 8 := by kernel_rfl
attribute [simp] underlying72
@[simp] theorem uid73 : prog.underlyingId 73 = 73 := by kernel_rfl
@[simp] theorem cof73 : prog.cellsOf 73 = 1 := by kernel_rfl
@[simp] theorem bof73 : prog.bytesOf 73 = 8 := by kernel_rfl
attribute [simp] underlying73
@[simp] theorem uid74 : prog.underlyingId 74 = 74 := by kernel_rfl
@[simp] theorem cof74 : prog.cellsOf 74 = 1 := by kernel_rfl
@[simp] theorem bof74 : prog.bytesOf 74 = 8 := by kernel_rfl
attribute [simp] underlying74
@[simp] theorem uid75 : prog.underlyingId 75 = 75 := by kernel_rfl
@[simp] theorem cof75 : prog.cellsOf 75 = 1 := by kernel_rfl
@[simp] theorem bof75 : prog.bytesOf 75 = 8 := by kernel_rfl
attribute [simp] underlying75
@[simp] theorem uid76 : prog.underlyingId 76 = 76 := by kernel_rfl
@[simp] theorem cof76 : prog.cellsOf 76 = 1 := by kernel_rfl
@[simp] theorem bof76 : prog.bytesOf 76 = 8 := by kernel_rfl
attribute [simp] underlying76
@[simp] theorem uid77 : prog.underlyingId 77 = 77 := by kernel_rfl
@[simp] theorem cof77 : prog.cellsOf 77 = 1 := by kernel_rfl
@[simp] theorem bof77 : prog.bytesOf 77 = 8 := by kernel_rfl
attribute [simp] underlying77
@[simp] theorem uid78 : prog.underlyingId 78 = 78 := by kernel_rfl
@[simp] theorem cof78 : prog.cellsOf 78 = 1 := by kernel_rfl
@[simp] theorem bof78 : prog.bytesOf 78 = 8 := by kernel_rfl
attribute [simp] underlying78
@[simp] theorem uid80 : prog.underlyingId 80 = 80 := by kernel_rfl
@[simp] theorem cof80 : prog.cellsOf 80 = 1 := by kernel_rfl
@[simp] theorem bof80 : prog.bytesOf 80 = 8 := by kernel_rfl
attribute [simp] underlying80
@[simp] theorem uid81 : prog.underlyingId 81 = 81 := by kernel_rfl
@[simp] theorem cof81 : prog.cellsOf 81 = 1 := by kernel_rfl
@[simp] theorem bof81 : prog.bytesOf 81 = 8 := by kernel_rfl
@[simp] theorem zer81 : zeroA prog 81 = some (.d .nil) := by kernel_rfl
attribute [simp] underlying81
@[simp] theorem uid82 : prog.underlyingId 82 = 82 := by kernel_rfl
@[simp] theorem cof82 : prog.cellsOf 82 = 1 := by kernel_rfl
@[simp] theorem bof82 : prog.bytesOf 82 = 24 := by kernel_rfl
@[simp] theorem zer82 : zeroA prog 82 = some (.lst none 5 []) := by kernel_rfl
attribute [simp] underlying82
@[simp] theorem uid83 : prog.underlyingId 83 = 83 := by kernel_rfl
@[simp] theorem cof83 : prog.cellsOf 83 = 2 := by kernel_rfl
@[simp] theorem bof83 : prog.bytesOf 83 = 32 := by kernel_rfl
@[simp] theorem tys83 : tys prog 83 = [81, 82] := by kernel_rfl
@[simp] theorem eqt83 : eqT prog 83 = false := by kernel_rfl
@[simp] theorem zer83 : zeroA prog 83 = some (.agg 83 [(.d .nil), (.lst none 5 [])]) := by kernel_rfl
attribute [simp] underlying83
@[simp] theorem uid84 : prog.underlyingId 84 = 83 := by kernel_rfl
@[simp] theorem cof84 : prog.cellsOf 84 = 2 := by kernel_rfl
@[simp] theorem bof84 : prog.bytesOf 84 = 32 := by kernel_rfl
@[simp] theorem tys84 : tys prog 84 = [81, 82] := by kernel_rfl
@[simp] theorem eqt84 : eqT prog 84 = false := by kernel_rfl
@[simp] theorem zer84 : zeroA prog 84 = some (.agg 83 [(.d .nil), (.lst none 5 [])]) := by kernel_rfl
attribute [simp] underlying84
@[simp] theorem uid85 : prog.underlyingId 85 = 85 := by kernel_rfl
@[simp] theorem cof85 : prog.cellsOf 85 = 1 := by kernel_rfl
@[simp] theorem bof85 : prog.bytesOf 85 = 16 := by kernel_rfl
attribute [simp] underlying85
@[simp] theorem uid86 : prog.underlyingId 86 = 85 := by kernel_rfl
@[simp] theorem cof86 : prog.cellsOf 86 = 1 := by kernel_rfl
@[simp] theorem bof86 : prog.bytesOf 86 = 16 := by kernel_rfl
attribute [simp] underlying86
@[simp] theorem uid88 : prog.underlyingId 88 = 88 := by kernel_rfl
@[simp] theorem cof88 : prog.cellsOf 88 = 1 := by kernel_rfl
@[simp] theorem bof88 : prog.bytesOf 88 = 8 := by kernel_rfl
attribute [simp] underlying88
@[simp] theorem uid89 : prog.underlyingId 89 = 89 := by kernel_rfl
@[simp] theorem cof89 : prog.cellsOf 89 = 1 := by kernel_rfl
@[simp] theorem bof89 : prog.bytesOf 89 = 8 := by kernel_rfl
attribute [simp] underlying89
@[simp] theorem uid90 : prog.underlyingId 90 = 90 := by kernel_rfl
@[simp] theorem cof90 : prog.cellsOf 90 = 1 := by kernel_rfl
@[simp] theorem bof90 : prog.bytesOf 90 = 24 := by kernel_rfl
@[simp] theorem zer90 : zeroA prog 90 = some (.lst none 3 []) := by kernel_rfl
attribute [simp] underlying90
@[simp] theorem uid91 : prog.underlyingId 91 = 91 := by kernel_rfl
@[simp] theorem cof91 : prog.cellsOf 91 = 1 := by kernel_rfl
@[simp] theorem bof91 : prog.bytesOf 91 = 8 := by kernel_rfl
attribute [simp] underlying91
@[simp] theorem uid92 : prog.underlyingId 92 = 92 := by kernel_rfl
@[simp] theorem cof92 : prog.cellsOf 92 = 1 := by kernel_rfl
@[simp] theorem bof92 : prog.bytesOf 92 = 8 := by kernel_rfl
attribute [simp] underlying92
@[simp] theorem uid93 : prog.underlyingId 93 = 93 := by kernel_rfl
@[simp] theorem cof93 : prog.cellsOf 93 = 1 := by kernel_rfl
@[simp] theorem bof93 : prog.bytesOf 93 = 8 := by kernel_rfl
attribute [simp] underlying93
@[simp] theorem uid94 : prog.underlyingId 94 = 94 := by kernel_rfl
@[simp] theorem cof94 : prog.cellsOf 94 = 1 := by kernel_rfl
@[simp] theorem bof94 : prog.bytesOf 94 = 8 := by kernel_rfl
attribute [simp] underlying94
@[simp] theorem uid95 : prog.underlyingId 95 = 95 := by kernel_rfl
@[simp] theorem cof95 : prog.cellsOf 95 = 1 := by kernel_rfl
@[simp] theorem bof95 : prog.bytesOf 95 = 8 := by kernel_rfl
attribute [simp] underlying95
@[simp] theorem uid96 : prog.underlyingId 96 = 96 := by kernel_rfl
@[simp] theorem cof96 : prog.cellsOf 96 = 1 := by kernel_rfl
@[simp] theorem bof96 : prog.bytesOf 96 = 8 := by kernel_rfl
attribute [simp] underlying96
@[simp] theorem uid97 : prog.underlyingId 97 = 97 := by kernel_rfl
@[simp] theorem cof97 : prog.cellsOf 97 = 1 := by kernel_rfl
@[simp] theorem bof97 : prog.bytesOf 97 = 8 := by kernel_rfl
attribute [simp] underlying97
@[simp] theorem uid99 : prog.underlyingId 99 = 99 := by kernel_rfl
@[simp] theorem cof99 : prog.cellsOf 99 = 1 := by kernel_rfl
@[simp] theorem bof99 : prog.bytesOf 99 = 8 := by kernel_rfl
attribute [simp] underlying99
@[simp] theorem uid100 : prog.underlyingId 100 = 100 := by kernel_rfl
@[simp] theorem cof100 : prog.cellsOf 100 = 1 := by kernel_rfl
@[simp] theorem bof100 : prog.bytesOf 100 = 8 := by kernel_rfl
attribute [simp] underlying100
@[simp] theorem uid101 : prog.underlyingId 101 = 101 := by kernel_rfl
@[simp] theorem cof101 : prog.cellsOf 101 = 1 := by kernel_rfl
@[simp] theorem bof101 : prog.bytesOf 101 = 8 := by kernel_rfl
attribute [simp] underlying101
@[simp] theorem uid102 : prog.underlyingId 102 = 102 := by kernel_rfl
@[simp] theorem cof102 : prog.cellsOf 102 = 1 := by kernel_rfl
@[simp] theorem bof102 : prog.bytesOf 102 = 8 := by kernel_rfl
attribute [simp] underlying102
@[simp] theorem uid103 : prog.underlyingId 103 = 103 := by kernel_rfl
@[simp] theorem cof103 : prog.cellsOf 103 = 1 := by kernel_rfl
@[simp] theorem bof103 : prog.bytesOf 103 = 8 := by kernel_rfl
attribute [simp] underlying103
@[simp] theorem uid104 : prog.underlyingId 104 = 104 := by kernel_rfl
@[simp] theorem cof104 : prog.cellsOf 104 = 1 := by kernel_rfl
@[simp] theorem bof104 : prog.bytesOf 104 = 8 := by kernel_rfl
attribute [simp] underlying104
@[simp] theorem uid105 : prog.underlyingId 105 = 105 := by kernel_rfl
@[simp] theorem cof105 : prog.cellsOf 105 = 1 := by kernel_rfl
@[simp] theorem bof105 : prog.bytesOf 105 = 8 := by kernel_rfl
attribute [simp] underlying105
@[simp] theorem uid106 : prog.underlyingId 106 = 106 := by kernel_rfl
@[simp] theorem cof106 : prog.cellsOf 106 = 1 := by kernel_rfl
@[simp] theorem bof106 : prog.bytesOf 106 = 24 := by kernel_rfl
@[simp] theorem zer106 : zeroA prog 106 = some (.lst none 82 []) := by kernel_rfl
attribute [simp] underlying106
@[simp] theorem uid107 : prog.underlyingId 107 = 107 := by kernel_rfl
@[simp] theorem cof107 : prog.cellsOf 107 = 1 := by kernel_rfl
@[simp] theorem bof107 : prog.bytesOf 107 = 4 := by kernel_rfl
@[simp] theorem zer107 : zeroA prog 107 = some (.d (.int .u32 0)) := by kernel_rfl
attribute [simp] underlying107
@[simp] theorem uid108 : prog.underlyingId 108 = 108 := by kernel_rfl
@[simp] theorem cof108 : prog.cellsOf 108 = 8 := by kernel_rfl
@[simp] theorem bof108 : prog.bytesOf 108 = 32 := by kernel_rfl
@[simp] theorem tys108 : tys prog 108 = List.replicate 8 107 := by kernel_rfl
@[simp] theorem eqt108 : eqT prog 108 = true := by kernel_rfl
@[simp] theorem zer108 : zeroA prog 108 = some (.d (.agg 108 (List.replicate 8 (.int .u32 0)))) := by kernel_rfl
attribute [simp] underlying108
@[simp] theorem uid109 : prog.underlyingId 109 = 109 := by kernel_rfl
@[simp] theorem cof109 : prog.cellsOf 109 = 1 := by kernel_rfl
@[simp] theorem bof109 : prog.bytesOf 109 = 8 := by kernel_rfl
attribute [simp] underlying109
@[simp] theorem uid110 : prog.underlyingId 110 = 110 := by kernel_rfl
@[simp] theorem cof110 : prog.cellsOf 110 = 1 := by kernel_rfl
@[simp] theorem bof110 : prog.bytesOf 110 = 8 := by kernel_rfl
attribute [simp] underlying110
@[simp] theorem uid111 : prog.underlyingId 111 = 111 := by kernel_rfl
@[simp] theorem cof111 : prog.cellsOf 111 = 1 := by kernel_rfl
@[simp] theorem bof111 : prog.bytesOf 111 = 8 := by kernel_rfl
attribute [simp] underlying111
@[simp] theorem uid112 : prog.underlyingId 112 = 112 := by kernel_rfl
@[simp] theorem cof112 : prog.cellsOf 112 = 64 := by kernel_rfl
@[simp] theorem bof112 : prog.bytesOf 112 = 64 := by kernel_rfl
@[simp] theorem tys112 : tys prog 112 = List.replicate 64 5 := by kernel_rfl
@[simp] theorem eqt112 : eqT prog 112 = true := by kernel_rfl
@[simp] theorem zer112 : zeroA prog 112 = some (.d (.agg 112 (List.replicate 64 (.int .u8 0)))) := by kernel_rfl
attribute [simp] underlying112
@[simp] theorem uid113 : prog.underlyingId 113 = 113 := by kernel_rfl
@[simp] theorem cof113 : prog.cellsOf 113 = 1 := by kernel_rfl
@[simp] theorem bof113 : prog.bytesOf 113 = 8 := by kernel_rfl
@[simp] theorem zer113 : zeroA prog 113 = some (.d (.int .u64 0)) := by kernel_rfl
attribute [simp] underlying113
@[simp] theorem uid114 : prog.underlyingId 114 = 114 := by kernel_rfl
@[simp] theorem cof114 : prog.cellsOf 114 = 1 := by kernel_rfl
@[simp] theorem bof114 : prog.bytesOf 114 = 8 := by kernel_rfl
@[simp] theorem zer114 : zeroA prog 114 = some (.d .nil) := by kernel_rfl
attribute [simp] underlying114
@[simp] theorem uid115 : prog.underlyingId 115 = 115 := by kernel_rfl
@[simp] theorem cof115 : prog.cellsOf 115 = 1 := by kernel_rfl
@[simp] theorem bof115 : prog.bytesOf 115 = 8 := by kernel_rfl
attribute [simp] underlying115
@[simp] theorem uid116 : prog.underlyingId 116 = 116 := by kernel_rfl
@[simp] theorem cof116 : prog.cellsOf 116 = 1 := by kernel_rfl
@[simp] theorem bof116 : prog.bytesOf 116 = 8 := by kernel_rfl
attribute [simp] underlying116
@[simp] theorem uid117 : prog.underlyingId 117 = 117 := by kernel_rfl
@[simp] theorem cof117 : prog.cellsOf 117 = 1 := by kernel_rfl
@[simp] theorem bof117 : prog.bytesOf 117 = 8 := by kernel_rfl
attribute [simp] underlying117
@[simp] theorem uid118 : prog.underlyingId 118 = 118 := by kernel_rfl
@[simp] theorem cof118 : prog.cellsOf 118 = 1 := by kernel_rfl
@[simp] theorem bof118 : prog.bytesOf 118 = 8 := by kernel_rfl
attribute [simp] underlying118
@[simp] theorem uid119 : prog.underlyingId 119 = 119 := by kernel_rfl
@[simp] theorem cof119 : prog.cellsOf 119 = 1 := by kernel_rfl
@[simp] theorem bof119 : prog.bytesOf 119 = 8 := by kernel_rfl
attribute [simp] underlying119
@[simp] theorem uid120 : prog.underlyingId 120 = 120 := by kernel_rfl
@[simp] theorem cof120 : prog.cellsOf 120 = 1 := by kernel_rfl
@[simp] theorem bof120 : prog.bytesOf 120 = 8 := by kernel_rfl
attribute [simp] underlying120
@[simp] theorem uid121 : prog.underlyingId 121 = 121 := by kernel_rfl
@[simp] theorem cof121 : prog.cellsOf 121 = 1 := by kernel_rfl
@[simp] theorem bof121 : prog.bytesOf 121 = 8 := by kernel_rfl
attribute [simp] underlying121
@[simp] theorem uid123 : prog.underlyingId 123 = 123 := by kernel_rfl
@[simp] theorem cof123 : prog.cellsOf 123 = 1 := by kernel_rfl
@[simp] theorem bof123 : prog.bytesOf 123 = 8 := by kernel_rfl
attribute [simp] underlying123
@[simp] theorem uid124 : prog.underlyingId 124 = 124 := by kernel_rfl
@[simp] theorem cof124 : prog.cellsOf 124 = 1 := by kernel_rfl
@[simp] theorem bof124 : prog.bytesOf 124 = 8 := by kernel_rfl
attribute [simp] underlying124
@[simp] theorem uid125 : prog.underlyingId 125 = 125 := by kernel_rfl
@[simp] theorem cof125 : prog.cellsOf 125 = 1 := by kernel_rfl
@[simp] theorem bof125 : prog.bytesOf 125 = 8 := by kernel_rfl
attribute [simp] underlying125
@[simp] theorem uid126 : prog.underlyingId 126 = 126 := by kernel_rfl
@[simp] theorem cof126 : prog.cellsOf 126 = 64 := by kernel_rfl
@[simp] theorem bof126 : prog.bytesOf 126 = 256 := by kernel_rfl
@[simp] theorem tys126 : tys prog 126 = List.replicate 64 107 := by kernel_rfl
@[simp] theorem eqt126 : eqT prog 126 = true := by kernel_rfl
@[simp] theorem zer126 : zeroA prog 126 = some (.d (.agg 126 (List.replicate 64 (.int .u32 0)))) := by kernel_rfl
attribute [simp] underlying126
@[simp] theorem uid127 : prog.underlyingId 127 = 127 := by kernel_rfl
@[simp] theorem cof127 : prog.cellsOf 127 = 1 := by kernel_rfl
@[simp] theorem bof127 : prog.bytesOf 127 = 8 := by kernel_rfl
attribute [simp] underlying127
@[simp] theorem uid128 : prog.underlyingId 128 = 128 := by kernel_rfl
@[simp] theorem cof128 : prog.cellsOf 128 = 1 := by kernel_rfl
@[simp] theorem bof128 : prog.bytesOf 128 = 8 := by kernel_rfl
attribute [simp] underlying128
@[simp] theorem uid129 : prog.underlyingId 129 = 129 := by kernel_rfl
@[simp] theorem cof129 : prog.cellsOf 129 = 1 := by kernel_rfl
@[simp] theorem bof129 : prog.bytesOf 129 = 8 := by kernel_rfl
@[simp] theorem zer129 : zeroA prog 129 = some (.d (.int .u64 0)) := by kernel_rfl
attribute [simp] underlying129
@[simp] theorem uid130 : prog.underlyingId 130 = 130 := by kernel_rfl
@[simp] theorem cof130 : prog.cellsOf 130 = 1 := by kernel_rfl
@[simp] theorem bof130 : prog.bytesOf 130 = 8 := by kernel_rfl
attribute [simp] underlying130
@[simp] theorem uid132 : prog.underlyingId 132 = 132 := by kernel_rfl
@[simp] theorem cof132 : prog.cellsOf 132 = 1 := by kernel_rfl
@[simp] theorem bof132 : prog.bytesOf 132 = 8 := by kernel_rfl
attribute [simp] underlying132
@[simp] theorem uid133 : prog.underlyingId 133 = 133 := by kernel_rfl
@[simp] theorem cof133 : prog.cellsOf 133 = 1 := by kernel_rfl
@[simp] theorem bof133 : prog.bytesOf 133 = 8 := by kernel_rfl
attribute [simp] underlying133
@[simp] theorem uid134 : prog.underlyingId 134 = 134 := by kernel_rfl
@[simp] theorem cof134 : prog.cellsOf 134 = 1 := by kernel_rfl
@[simp] theorem bof134 : prog.bytesOf 134 = 8 := by kernel_rfl
attribute [simp] underlying134
@[simp] theorem uid135 : prog.underlyingId 135 = 135 := by kernel_rfl
@[simp] theorem cof135 : prog.cellsOf 135 = 24 := by kernel_rfl
@[simp] theorem bof135 : prog.bytesOf 135 = 24 := by kernel_rfl
@[simp] theorem tys135 : tys prog 135 = List.replicate 24 5 := by kernel_rfl
@[simp] theorem eqt135 : eqT prog 135 = true := by kernel_rfl
@[simp] theorem zer135 : zeroA prog 135 = some (.d (.agg 135 (List.replicate 24 (.int .u8 0)))) := by kernel_rfl
attribute [simp] underlying135
@[simp] theorem uid136 : prog.underlyingId 136 = 136 := by kernel_rfl
@[simp] theorem cof136 : prog.cellsOf 136 = 1 := by kernel_rfl
@[simp] theorem bof136 : prog.bytesOf 136 = 8 := by kernel_rfl
attribute [simp] underlying136
@[simp] theorem uid137 : prog.underlyingId 137 = 137 := by kernel_rfl
@[simp] theorem cof137 : prog.cellsOf 137 = 1 := by kernel_rfl
@[simp] theorem bof137 : prog.bytesOf 137 = 8 := by kernel_rfl
attribute [simp] underlying137
@[simp] theorem uid139 : prog.underlyingId 139 = 139 := by kernel_rfl
@[simp] theorem cof139 : prog.cellsOf 139 = 1 := by kernel_rfl
@[simp] theorem bof139 : prog.bytesOf 139 = 8 := by kernel_rfl
attribute [simp] underlying139
@[simp] theorem uid140 : prog.underlyingId 140 = 3 := by kernel_rfl
@[simp] theorem cof140 : prog.cellsOf 140 = 1 := by kernel_rfl
@[simp] theorem bof140 : prog.bytesOf 140 = 8 := by kernel_rfl
@[simp] theorem zer140 : zeroA prog 140 = some (.d (.int .i64 0)) := by kernel_rfl
attribute [simp] underlying140
@[simp] theorem uid142 : prog.underlyingId 142 = 142 := by kernel_rfl
@[simp] theorem cof142 : prog.cellsOf 142 = 1 := by kernel_rfl
@[simp] theorem bof142 : prog.bytesOf 142 = 8 := by kernel_rfl
attribute [simp] underlying142
@[simp] theorem uid143 : prog.underlyingId 143 = 143 := by kernel_rfl
@[simp] theorem cof143 : prog.cellsOf 143 = 1 := by kernel_rfl
@[simp] theorem bof143 : prog.bytesOf 143 = 8 := by kernel_rfl
@[simp] theorem zer143 : zeroA prog 143 = some (.d .nil) := by kernel_rfl
attribute [simp] underlying143
@[simp] theorem uid144 : prog.underlyingId 144 = 144 := by kernel_rfl
@[simp] theorem cof144 : prog.cellsOf 144 = 1 := by kernel_rfl
@[simp] theorem bof144 : prog.bytesOf 144 = 8 := by kernel_rfl
attribute [simp] underlying144
@[simp] theorem uid145 : prog.underlyingId 145 = 145 := by kernel_rfl
@[simp] theorem cof145 : prog.cellsOf 145 = 1 := by kernel_rfl
@[simp] theorem bof145 : prog.bytesOf 145 = 8 := by kernel_rfl
attribute [simp] underlying145
@[simp] theorem uid146 : prog.underlyingId 146 = 146 := by kernel_rfl
@[simp] theorem cof146 : prog.cellsOf 146 = 1 := by kernel_rfl
@[simp] theorem bof146 : prog.bytesOf 146 = 8 := by kernel_rfl
attribute [simp] underlying146
@[simp] theorem uid147 : prog.underlyingId 147 = 147 := by kernel_rfl
@[simp] theorem cof147 : prog.cellsOf 147 = 1 := by kernel_rfl
@[simp] theorem bof147 : prog.bytesOf 147 = 8 := by kernel_rfl
attribute [simp] underlying147
@[simp] theorem uid148 : prog.underlyingId 148 = 148 := by kernel_rfl
@[simp] theorem cof148 : prog.cellsOf 148 = 20 := by kernel_rfl
@[simp] theorem bof148 : prog.bytesOf 148 = 160 := by kernel_rfl
@[simp] theorem tys148 : tys prog 148 = List.replicate 20 129 := by kernel_rfl
@[simp] theorem eqt148 : eqT prog 148 = true := by kernel_rfl
@[simp] theorem zer148 : zeroA prog 148 = some (.d (.agg 148 (List.replicate 20 (.int .u64 0)))) := by kernel_rfl
attribute [simp] underlying148
@[simp] theorem uid149 : prog.underlyingId 149 = 149 := by kernel_rfl
@[simp] theorem cof149 : prog.cellsOf 149 = 65 := by kernel_rfl
@[simp] theorem bof149 : prog.bytesOf 149 = 65 := by kernel_rfl
@[simp] theorem tys149 : tys prog 149 = List.replicate 65 5 := by kernel_rfl
@[simp] theorem eqt149 : eqT prog 149 = true := by kernel_rfl
@[simp] theorem zer149 : zeroA prog 149 = some (.d (.agg 149 (List.replicate 65 (.int .u8 0)))) := by kernel_rfl
attribute [simp] underlying149
@[simp] theorem uid150 : prog.underlyingId 150 = 150 := by kernel_rfl
@[simp] theorem cof150 : prog.cellsOf 150 = 1 := by kernel_rfl
@[simp] theorem bof150 : prog.bytesOf 150 = 8 := by kernel_rfl
attribute [simp] underlying150
@[simp] theorem uid152 : prog.underlyingId 152 = 152 := by kernel_rfl
@[simp] theorem cof152 : prog.cellsOf 152 = 1 := by kernel_rfl
@[simp] theorem bof152 : prog.bytesOf 152 = 8 := by kernel_rfl
attribute [simp] underlying152
@[simp] theorem uid153 : prog.underlyingId 153 = 153 := by kernel_rfl
@[simp] theorem cof153 : prog.cellsOf 153 = 1 := by kernel_rfl
@[simp] theorem bof153 : prog.bytesOf 153 = 8 := by kernel_rfl
attribute [simp] underlying153
@[simp] theorem uid154 : prog.underlyingId 154 = 154 := by kernel_rfl
@[simp] theorem cof154 : prog.cellsOf 154 = 3 := by kernel_rfl
@[simp] theorem bof154 : prog.bytesOf 154 = 48 := by kernel_rfl
@[simp] theorem tys154 : tys prog 154 = [9, 9, 86] := by kernel_rfl
@[simp] theorem eqt154 : eqT prog 154 = false := by kernel_rfl
attribute [simp] underlying154
@[simp] theorem uid155 : prog.underlyingId 155 = 154 := by kernel_rfl
@[simp] theorem cof155 : prog.cellsOf 155 = 3 := by kernel_rfl
@[simp] theorem bof155 : prog.bytesOf 155 = 48 := by kernel_rfl
@[simp] theorem tys155 : tys prog 155 = [9, 9, 86] := by kernel_rfl
@[simp] theorem eqt155 : eqT prog 155 = false := by kernel_rfl
attribute [simp] underlying155
@[simp] theorem uid156 : prog.underlyingId 156 = 156 := by kernel_rfl
@[simp] theorem cof156 : prog.cellsOf 156 = 1 := by kernel_rfl
@[simp] theorem bof156 : prog.bytesOf 156 = 8 := by kernel_rfl
attribute [simp] underlying156
@[simp] theorem uid157 : prog.underlyingId 157 = 157 := by kernel_rfl
@[simp] theorem cof157 : prog.cellsOf 157 = 256 := by kernel_rfl
@[simp] theorem bof157 : prog.bytesOf 157 = 256 := by kernel_rfl
@[simp] theorem tys157 : tys prog 157 = List.replicate 256 5 := by kernel_rfl
@[simp] theorem eqt157 : eqT prog 157 = true := by kernel_rfl
@[simp] theorem zer157 : zeroA prog 157 = some (.d (.agg 157 (List.replicate 256 (.int .u8 0)))) := by kernel_rfl
attribute [simp] underlying157
@[simp] theorem uid158 : prog.underlyingId 158 = 158 := by kernel_rfl
@[simp] theorem cof158 : prog.cellsOf 158 = 2 := by kernel_rfl
@[simp] theorem bof158 : prog.bytesOf 158 = 2 := by kernel_rfl
@[simp] theorem tys158 : tys prog 158 = [5, 5] := by kernel_rfl
@[simp] theorem eqt158 : eqT prog 158 = true := by kernel_rfl
@[simp] theorem zer158 : zeroA prog 158 = some (.d (.agg 158 [(.int .u8 0), (.int .u8 0)])) := by kernel_rfl
attribute [simp] underlying158
@[simp] theorem uid159 : prog.underlyingId 159 = 158 := by kernel_rfl
@[simp] theorem cof159 : prog.cellsOf 159 = 2 := by kernel_rfl
@[simp] theorem bof159 : prog.bytesOf 159 = 2 := by kernel_rfl
@[simp] theorem tys159 : tys prog 159 = [5, 5] := by kernel_rfl
@[simp] theorem eqt159 : eqT prog 159 = true := by kernel_rfl
@[simp] theorem zer159 : zeroA prog 159 = some (.d (.agg 158 [(.int .u8 0), (.int .u8 0)])) := by kernel_rfl
attribute [simp] underlying159
@[simp] theorem uid160 : prog.underlyingId 160 = 160 := by kernel_rfl
@[simp] theorem cof160 : prog.cellsOf 160 = 32 := by kernel_rfl
@[simp] theorem bof160 : prog.bytesOf 160 = 32 := by kernel_rfl
@[simp] theorem tys160 : tys prog 160 = List.replicate 16 159 := by kernel_rfl
@[simp] theorem eqt160 : eqT prog 160 = true := by kernel_rfl
@[simp] theorem zer160 : zeroA prog 160 = some (.d (.agg 160 (List.replicate 16 (.agg 158 [(.int .u8 0), (.int .u8 0)])))) := by kernel_rfl
attribute [simp] underlying160
@[simp] theorem uid162 : prog.underlyingId 162 = 162 := by kernel_rfl
@[simp] theorem cof162 : prog.cellsOf 162 = 1 := by kernel_rfl
@[simp] theorem bof162 : prog.bytesOf 162 = 8 := by kernel_rfl
attribute [simp] underlying162
@[simp] theorem uid163 : prog.underlyingId 163 = 163 := by kernel_rfl
@[simp] theorem cof163 : prog.cellsOf 163 = 1 := by kernel_rfl
@[simp] theorem bof163 : prog.bytesOf 163 = 8 := by kernel_rfl
attribute [simp] underlying163
@[simp] theorem uid164 : prog.underlyingId 164 = 164 := by kernel_rfl
@[simp] theorem cof164 : prog.cellsOf 164 = 1 := by kernel_rfl
@[simp] theorem bof164 : prog.bytesOf 164 = 8 := by kernel_rfl
attribute [simp] underlying164
@[simp] theorem uid165 : prog.underlyingId 165 = 165 := by kernel_rfl
@[simp] theorem cof165 : prog.cellsOf 165 = 1 := by kernel_rfl
@[simp] theorem bof165 : prog.bytesOf 165 = 8 := by kernel_rfl
attribute [simp] underlying165
@[simp] theorem uid166 : prog.underlyingId 166 = 166 := by kernel_rfl
@[simp] theorem cof166 : prog.cellsOf 166 = 1 := by kernel_rfl
@[simp] theorem bof166 : prog.bytesOf 166 = 8 := by kernel_rfl
@[simp] theorem zer166 : zeroA prog 166 = some (.d .nil) := by kernel_rfl
attribute [simp] underlying166
@[simp] theorem uid167 : prog.underlyingId 167 = 167 := by kernel_rfl
@[simp] theorem cof167 : prog.cellsOf 167 = 1 := by kernel_rfl
@[simp] theorem bof167 : prog.bytesOf 167 = 16 := by kernel_rfl
@[simp] theorem tys167 : tys prog 167 = [9] := by kernel_rfl
@[simp] theorem eqt167 : eqT prog 167 = true := by kernel_rfl
@[simp] theorem zer167 : zeroA prog 167 = some (.d (.agg 167 [(.str .empty)])) := by kernel_rfl
attribute [simp] underlying167
@[simp] theorem uid168 : prog.underlyingId 168 = 167 := by kernel_rfl
@[simp] theorem cof168 : prog.cellsOf 168 = 1 := by kernel_rfl
@[simp] theorem bof168 : prog.bytesOf 168 = 16 := by kernel_rfl
@[simp] theorem tys168 : tys prog 168 = [9] := by kernel_rfl
@[simp] theorem eqt168 : eqT prog 168 = true := by kernel_rfl
@[simp] theorem zer168 : zeroA prog 168 = some (.d (.agg 167 [(.str .empty)])) := by kernel_rfl
attribute [simp] underlying168
@[simp] theorem uid169 : prog.underlyingId 169 = 169 := by kernel_rfl
@[simp] theorem cof169 : prog.cellsOf 169 = 4 := by kernel_rfl
@[simp] theorem bof169 : prog.bytesOf 169 = 40 := by kernel_rfl
@[simp] theorem tys169 : tys prog 169 = [17, 17, 17, 9] := by kernel_rfl
@[simp] theorem eqt169 : eqT prog 169 = false := by kernel_rfl
@[simp] theorem zer169 : zeroA prog 169 = some (.d (.agg 169 [.nil, .nil, .nil, (.str .empty)])) := by kernel_rfl
attribute [simp] underlying169
@[simp] theorem uid170 : prog.underlyingId 170 = 169 := by kernel_rfl
@[simp] theorem cof170 : prog.cellsOf 170 = 4 := by kernel_rfl
@[simp] theorem bof170 : prog.bytesOf 170 = 40 := by kernel_rfl
@[simp] theorem tys170 : tys prog 170 = [17, 17, 17, 9] := by kernel_rfl
@[simp] theorem eqt170 : eqT prog 170 = false := by kernel_rfl
@[simp] theorem zer170 : zeroA prog 170 = some (.d (.agg 169 [.nil, .nil, .nil, (.str .empty)])) := by kernel_rfl
attribute [simp] underlying170
@[simp] theorem uid171 : prog.underlyingId 171 = 171 := by kernel_rfl
@[simp] theorem cof171 : prog.cellsOf 171 = 0 := by kernel_rfl
@[simp] theorem bof171 : prog.bytesOf 171 = 0 := by kernel_rfl
@[simp] theorem tys171 : tys prog 171 = [] := by kernel_rfl
@[simp] theorem eqt171 : eqT prog 171 = false := by kernel_rfl
@[simp] theorem zer171 : zeroA prog 171 = some (.d (.agg 171 [])) := by kernel_rfl
attribute [simp] underlying171
@[simp] theorem uid172 : prog.underlyingId 172 = 172 := by kernel_rfl
@[simp] theorem cof172 : prog.cellsOf 172 = 0 := by kernel_rfl
@[simp] theorem bof172 : prog.bytesOf 172 = 0 := by kernel_rfl
@[simp] theorem tys172 : tys prog 172 = [171] := by kernel_rfl
@[simp] theorem eqt172 : eqT prog 172 = false := by kernel_rfl
@[simp] theorem zer172 : zeroA prog 172 = some (.d (.agg 172 [(.agg 171 [])])) := by kernel_rfl
attribute [simp] underlying172
@[simp] theorem uid173 : prog.underlyingId 173 = 172 := by kernel_rfl
@[simp] theorem cof173 : prog.cellsOf 173 = 0 := by kernel_rfl
@[simp] theorem bof173 : prog.bytesOf 173 = 0 := by kernel_rfl
@[simp] theorem tys173 : tys prog 173 = [171] := by kernel_rfl
@[simp] theorem eqt173 : eqT prog 173 = false := by kernel_rfl
@[simp] theorem zer173 : zeroA prog 173 = some (.d (.agg 172 [(.agg 171 [])])) := by kernel_rfl
attribute [simp] underlying173
@[simp] theorem uid174 : prog.underlyingId 174 = 174 := by kernel_rfl
@[simp] theorem cof174 : prog.cellsOf 174 = 1 := by kernel_rfl
@[simp] theorem bof174 : prog.bytesOf 174 = 8 := by kernel_rfl
attribute [simp] underlying174
@[simp] theorem uid175 : prog.underlyingId 175 = 5 := by kernel_rfl
@[simp] theorem cof175 : prog.cellsOf 175 = 1 := by kernel_rfl
@[simp] theorem bof175 : prog.bytesOf 175 = 1 := by kernel_rfl
@[simp] theorem zer175 : zeroA prog 175 = some (.d (.int .u8 0)) := by kernel_rfl
attribute [simp] underlying175
@[simp] theorem uid176 : prog.underlyingId 176 = 5 := by kernel_rfl
@[simp] theorem cof176 : prog.cellsOf 176 = 1 := by kernel_rfl
@[simp] theorem bof176 : prog.bytesOf 176 = 1 := by kernel_rfl
@[simp] theorem zer176 : zeroA prog 176 = some (.d (.int .u8 0)) := by kernel_rfl
attribute [simp] underlying176
@[simp] theorem uid177 : prog.underlyingId 177 = 177 := by kernel_rfl
@[simp] theorem cof177 : prog.cellsOf 177 = 1 := by kernel_rfl
@[simp] theorem bof177 : prog.bytesOf 177 = 8 := by kernel_rfl
attribute [simp] underlying177
@[simp] theorem uid178 : prog.underlyingId 178 = 21 := by kernel_rfl
@[simp] theorem cof178 : prog.cellsOf 178 = 1 := by kernel_rfl
@[simp] theorem bof178 : prog.bytesOf 178 = 4 := by kernel_rfl
@[simp] theorem zer178 : zeroA prog 178 = some (.d (.int .i32 0)) := by kernel_rfl
attribute [simp] underlying178
@[simp] theorem uid179 : prog.underlyingId 179 = 21 := by kernel_rfl
@[simp] theorem cof179 : prog.cellsOf 179 = 1 := by kernel_rfl
@[simp] theorem bof179 : prog.bytesOf 179 = 4 := by kernel_rfl
@[simp] theorem zer179 : zeroA prog 179 = some (.d (.int .i32 0)) := by kernel_rfl
attribute [simp] underlying179
@[simp] theorem uid180 : prog.underlyingId 180 = 180 := by kernel_rfl
@[simp] theorem cof180 : prog.cellsOf 180 = 11 := by kernel_rfl
@[simp] theorem bof180 : prog.bytesOf 180 = 48 := by kernel_rfl
@[simp] theorem tys180 : tys prog 180 = [12, 12, 107, 175, 5, 5, 176, 177, 114, 178, 179] := by kernel_rfl
@[simp] theorem eqt180 : eqT prog 180 = false := by kernel_rfl
attribute [simp] underlying180
@[simp] theorem uid181 : prog.underlyingId 181 = 180 := by kernel_rfl
@[simp] theorem cof181 : prog.cellsOf 181 = 11 := by kernel_rfl
@[simp] theorem bof181 : prog.bytesOf 181 = 48 := by kernel_rfl
@[simp] theorem tys181 : tys prog 181 = [12, 12, 107, 175, 5, 5, 176, 177, 114, 178, 179] := by kernel_rfl
@[simp] theorem eqt181 : eqT prog 181 = false := by kernel_rfl
attribute [simp] underlying181
@[simp] theorem orders : prog.follows .mixedOrders = true := by kernel_rfl
end Go.Tith
