/- Part of the proofs over this seat: see the text that holds the theorem. Conditions: each theorem bears its own. -/
import Derived.Test.YtiggliigookieaaHlB
import Derived.Test.YtiggliigookieaaProg
import Derived.KernelRfl
namespace Go.Proofs.Ytiggliigookieaa
open Go.HL Go.Proofs

instance : Mixed Try.prog := ⟨by kernel_rfl⟩
instance g1 : TG Try.prog 1 true := ⟨by kernel_rfl⟩
instance u1 : TU Try.prog 1 ((Go.TypeDesc.func #[] #[] Bool.false)) := ⟨Try.underlying1⟩
instance g2 : TG Try.prog 2 true := ⟨by kernel_rfl⟩
instance u2 : TU Try.prog 2 ((Go.TypeDesc.int Go.IntKind.i64)) := ⟨Try.underlying2⟩
instance g3 : TG Try.prog 3 true := ⟨by kernel_rfl⟩
instance u3 : TU Try.prog 3 ((Go.TypeDesc.int Go.IntKind.i64)) := ⟨Try.underlying3⟩
instance g4 : TG Try.prog 4 true := ⟨by kernel_rfl⟩
instance u4 : TU Try.prog 4 (Go.TypeDesc.bool) := ⟨Try.underlying4⟩
instance g5 : TG Try.prog 5 true := ⟨by kernel_rfl⟩
instance u5 : TU Try.prog 5 ((Go.TypeDesc.int Go.IntKind.u8)) := ⟨Try.underlying5⟩
instance g6 : TG Try.prog 6 true := ⟨by kernel_rfl⟩
instance u6 : TU Try.prog 6 ((Go.TypeDesc.int Go.IntKind.u8)) := ⟨Try.underlying6⟩
instance g7 : TG Try.prog 7 false := ⟨by kernel_rfl⟩
instance b7 : TB Try.prog 7 [(0, 1), (1, 1), (2, 1), (3, 1)] := ⟨by kernel_rfl⟩
instance s7 : TS Try.prog 7 [(2, 0), (3, 1), (4, 2), (6, 3)] := ts_of (by kernel_rfl)
instance g8 : TG Try.prog 8 false := ⟨by kernel_rfl⟩
instance b8 : TB Try.prog 8 [(0, 1), (1, 1), (2, 1), (3, 1)] := ⟨by kernel_rfl⟩
instance s8 : TS Try.prog 8 [(2, 0), (3, 1), (4, 2), (6, 3)] := ts_of (by kernel_rfl)
instance g9 : TG Try.prog 9 true := ⟨by kernel_rfl⟩
instance u9 : TU Try.prog 9 (Go.TypeDesc.string) := ⟨Try.underlying9⟩
instance g10 : TG Try.prog 10 true := ⟨by kernel_rfl⟩
instance u10 : TU Try.prog 10 (Go.TypeDesc.string) := ⟨Try.underlying10⟩
instance g11 : TG Try.prog 11 true := ⟨by kernel_rfl⟩
instance u11 : TU Try.prog 11 (Go.TypeDesc.string) := ⟨Try.underlying11⟩
instance g12 : TG Try.prog 12 true := ⟨by kernel_rfl⟩
instance u12 : TU Try.prog 12 ((Go.TypeDesc.int Go.IntKind.u64)) := ⟨Try.underlying12⟩
instance g13 : TG Try.prog 13 false := ⟨by kernel_rfl⟩
instance b13 : TB Try.prog 13 [(0, 1), (1, 1)] := ⟨by kernel_rfl⟩
instance s13 : TS Try.prog 13 [(9, 0), (12, 1)] := ts_of (by kernel_rfl)
instance g14 : TG Try.prog 14 false := ⟨by kernel_rfl⟩
instance b14 : TB Try.prog 14 [(0, 1), (1, 1)] := ⟨by kernel_rfl⟩
instance s14 : TS Try.prog 14 [(9, 0), (12, 1)] := ts_of (by kernel_rfl)
instance g15 : TG Try.prog 15 true := ⟨by kernel_rfl⟩
instance u15 : TU Try.prog 15 ((Go.TypeDesc.pointer 99)) := ⟨Try.underlying15⟩
instance g16 : TG Try.prog 16 true := ⟨by kernel_rfl⟩
instance u16 : TU Try.prog 16 ((Go.TypeDesc.pointer 102)) := ⟨Try.underlying16⟩
instance g17 : TG Try.prog 17 true := ⟨by kernel_rfl⟩
instance u17 : TU Try.prog 17 ((Go.TypeDesc.pointer 112)) := ⟨Try.underlying17⟩
instance g18 : TG Try.prog 18 false := ⟨by kernel_rfl⟩
instance b18 : TB Try.prog 18 [(0, 1)] := ⟨by kernel_rfl⟩
instance s18 : TS Try.prog 18 [(17, 0)] := ts_of (by kernel_rfl)
instance g19 : TG Try.prog 19 false := ⟨by kernel_rfl⟩
instance b19 : TB Try.prog 19 [(0, 1)] := ⟨by kernel_rfl⟩
instance s19 : TS Try.prog 19 [(17, 0)] := ts_of (by kernel_rfl)
instance g20 : TG Try.prog 20 true := ⟨by kernel_rfl⟩
instance g21 : TG Try.prog 21 true := ⟨by kernel_rfl⟩
instance u21 : TU Try.prog 21 ((Go.TypeDesc.int Go.IntKind.i32)) := ⟨Try.underlying21⟩
instance g22 : TG Try.prog 22 true := ⟨by kernel_rfl⟩
instance u22 : TU Try.prog 22 ((Go.TypeDesc.slice 51)) := ⟨Try.underlying22⟩
instance g23 : TG Try.prog 23 true := ⟨by kernel_rfl⟩
instance u23 : TU Try.prog 23 ((Go.TypeDesc.slice 5)) := ⟨Try.underlying23⟩
instance g24 : TG Try.prog 24 false := ⟨by kernel_rfl⟩
instance e24 : EG Try.prog 24 := ⟨by kernel_rfl⟩
instance b24 : TB Try.prog 24 [(0, 1), (1, 1)] := ⟨by kernel_rfl⟩
instance tq24 : TQ Try.prog 24 [(3, 0), (3, 1)] := ⟨by kernel_rfl⟩
instance s24 : TS Try.prog 24 [(3, 0), (3, 1)] := ts_of (by kernel_rfl)
instance g25 : TG Try.prog 25 false := ⟨by kernel_rfl⟩
instance e25 : EG Try.prog 25 := ⟨by kernel_rfl⟩
instance b25 : TB Try.prog 25 [(0, 1), (1, 1)] := ⟨by kernel_rfl⟩
instance tq25 : TQ Try.prog 25 [(3, 0), (3, 1)] := ⟨by kernel_rfl⟩
instance s25 : TS Try.prog 25 [(3, 0), (3, 1)] := ts_of (by kernel_rfl)
instance g26 : TG Try.prog 26 true := ⟨by kernel_rfl⟩
instance u26 : TU Try.prog 26 ((Go.TypeDesc.func #[] #[4] Bool.false)) := ⟨Try.underlying26⟩
instance g27 : TG Try.prog 27 true := ⟨by kernel_rfl⟩
instance u27 : TU Try.prog 27 ((Go.TypeDesc.func #[22] #[4] Bool.false)) := ⟨Try.underlying27⟩
instance g28 : TG Try.prog 28 true := ⟨by kernel_rfl⟩
instance u28 : TU Try.prog 28 ((Go.TypeDesc.slice 35)) := ⟨Try.underlying28⟩
instance g30 : TG Try.prog 30 true := ⟨by kernel_rfl⟩
instance u30 : TU Try.prog 30 ((Go.TypeDesc.func #[22, 23, 25, 3] #[28, 4] Bool.false)) := ⟨Try.underlying30⟩
instance g31 : TG Try.prog 31 true := ⟨by kernel_rfl⟩
instance u31 : TU Try.prog 31 ((Go.TypeDesc.slice 25)) := ⟨Try.underlying31⟩
instance g33 : TG Try.prog 33 true := ⟨by kernel_rfl⟩
instance u33 : TU Try.prog 33 ((Go.TypeDesc.func #[22, 23, 25] #[31, 4] Bool.false)) := ⟨Try.underlying33⟩
instance g34 : TG Try.prog 34 false := ⟨by kernel_rfl⟩
instance b34 : TB Try.prog 34 [(0, 1), (1, 1), (2, 1), (3, 1)] := ⟨by kernel_rfl⟩
instance s34 : TS Try.prog 34 [(3, 0), (3, 1), (3, 2), (28, 3)] := ts_of (by kernel_rfl)
instance g35 : TG Try.prog 35 false := ⟨by kernel_rfl⟩
instance b35 : TB Try.prog 35 [(0, 1), (1, 1), (2, 1), (3, 1)] := ⟨by kernel_rfl⟩
instance s35 : TS Try.prog 35 [(3, 0), (3, 1), (3, 2), (28, 3)] := ts_of (by kernel_rfl)
instance g36 : TG Try.prog 36 true := ⟨by kernel_rfl⟩
instance u36 : TU Try.prog 36 ((Go.TypeDesc.func #[35, 35] #[3] Bool.false)) := ⟨Try.underlying36⟩
instance g37 : TG Try.prog 37 true := ⟨by kernel_rfl⟩
instance u37 : TU Try.prog 37 ((Go.TypeDesc.func #[31, 31] #[4] Bool.false)) := ⟨Try.underlying37⟩
instance g38 : TG Try.prog 38 true := ⟨by kernel_rfl⟩
instance u38 : TU Try.prog 38 ((Go.TypeDesc.func #[22, 35] #[31] Bool.false)) := ⟨Try.underlying38⟩
instance g39 : TG Try.prog 39 true := ⟨by kernel_rfl⟩
instance u39 : TU Try.prog 39 ((Go.TypeDesc.func #[22, 23, 25] #[4] Bool.false)) := ⟨Try.underlying39⟩
instance g40 : TG Try.prog 40 true := ⟨by kernel_rfl⟩
instance u40 : TU Try.prog 40 ((Go.TypeDesc.func #[22, 23, 3, 3] #[23] Bool.false)) := ⟨Try.underlying40⟩
instance g41 : TG Try.prog 41 true := ⟨by kernel_rfl⟩
instance u41 : TU Try.prog 41 ((Go.TypeDesc.func #[22, 23, 3] #[31, 4] Bool.false)) := ⟨Try.underlying41⟩
instance g42 : TG Try.prog 42 true := ⟨by kernel_rfl⟩
instance u42 : TU Try.prog 42 ((Go.TypeDesc.slice 4)) := ⟨Try.underlying42⟩
instance g43 : TG Try.prog 43 true := ⟨by kernel_rfl⟩
instance u43 : TU Try.prog 43 ((Go.TypeDesc.func #[22, 23, 3] #[42] Bool.false)) := ⟨Try.underlying43⟩
instance g44 : TG Try.prog 44 true := ⟨by kernel_rfl⟩
instance u44 : TU Try.prog 44 ((Go.TypeDesc.func #[22, 23, 3] #[4] Bool.false)) := ⟨Try.underlying44⟩
instance g45 : TG Try.prog 45 true := ⟨by kernel_rfl⟩
instance u45 : TU Try.prog 45 ((Go.TypeDesc.func #[22] #[3] Bool.false)) := ⟨Try.underlying45⟩
instance g46 : TG Try.prog 46 true := ⟨by kernel_rfl⟩
instance u46 : TU Try.prog 46 ((Go.TypeDesc.int Go.IntKind.i8)) := ⟨Try.underlying46⟩
instance g47 : TG Try.prog 47 true := ⟨by kernel_rfl⟩
instance u47 : TU Try.prog 47 ((Go.TypeDesc.int Go.IntKind.u64)) := ⟨Try.underlying47⟩
instance g48 : TG Try.prog 48 false := ⟨by kernel_rfl⟩
instance e48 : EG Try.prog 48 := ⟨by kernel_rfl⟩
instance u48 : TU Try.prog 48 ((Go.TypeDesc.array 4 47)) := ⟨Try.underlying48⟩
instance g49 : TG Try.prog 49 false := ⟨by kernel_rfl⟩
instance e49 : EG Try.prog 49 := ⟨by kernel_rfl⟩
instance u49 : TU Try.prog 49 ((Go.TypeDesc.array 4 47)) := ⟨Try.underlying49⟩
instance g50 : TG Try.prog 50 false := ⟨by kernel_rfl⟩
instance e50 : EG Try.prog 50 := ⟨by kernel_rfl⟩
instance b50 : TB Try.prog 50 [(0, 1), (1, 4), (5, 1), (6, 1), (7, 1), (8, 1)] := ⟨by kernel_rfl⟩
instance tq50 : TQ Try.prog 50 [(46, 0), (49, 1), (3, 5), (3, 6), (3, 7), (3, 8)] := ⟨by kernel_rfl⟩
instance s50 : TS Try.prog 50 [(46, 0), (49, 1), (3, 5), (3, 6), (3, 7), (3, 8)] := ts_of (by kernel_rfl)
instance g51 : TG Try.prog 51 false := ⟨by kernel_rfl⟩
instance e51 : EG Try.prog 51 := ⟨by kernel_rfl⟩
instance b51 : TB Try.prog 51 [(0, 1), (1, 4), (5, 1), (6, 1), (7, 1), (8, 1)] := ⟨by kernel_rfl⟩
instance tq51 : TQ Try.prog 51 [(46, 0), (49, 1), (3, 5), (3, 6), (3, 7), (3, 8)] := ⟨by kernel_rfl⟩
instance s51 : TS Try.prog 51 [(46, 0), (49, 1), (3, 5), (3, 6), (3, 7), (3, 8)] := ts_of (by kernel_rfl)
instance g52 : TG Try.prog 52 true := ⟨by kernel_rfl⟩
instance u52 : TU Try.prog 52 ((Go.TypeDesc.func #[22, 3] #[3] Bool.false)) := ⟨Try.underlying52⟩
instance g53 : TG Try.prog 53 true := ⟨by kernel_rfl⟩
instance u53 : TU Try.prog 53 ((Go.TypeDesc.func #[5] #[51] Bool.false)) := ⟨Try.underlying53⟩
instance g54 : TG Try.prog 54 true := ⟨by kernel_rfl⟩
instance u54 : TU Try.prog 54 ((Go.TypeDesc.slice 3)) := ⟨Try.underlying54⟩
instance g55 : TG Try.prog 55 true := ⟨by kernel_rfl⟩
instance u55 : TU Try.prog 55 ((Go.TypeDesc.pointer 57)) := ⟨Try.underlying55⟩
instance g56 : TG Try.prog 56 false := ⟨by kernel_rfl⟩
instance b56 : TB Try.prog 56 [(0, 1)] := ⟨by kernel_rfl⟩
instance s56 : TS Try.prog 56 [(3, 0)] := ts_of (by kernel_rfl)
instance g57 : TG Try.prog 57 false := ⟨by kernel_rfl⟩
instance b57 : TB Try.prog 57 [(0, 1)] := ⟨by kernel_rfl⟩
instance s57 : TS Try.prog 57 [(3, 0)] := ts_of (by kernel_rfl)
instance g58 : TG Try.prog 58 true := ⟨by kernel_rfl⟩
instance u58 : TU Try.prog 58 ((Go.TypeDesc.func #[22, 23, 3, 3, 3] #[28] Bool.false)) := ⟨Try.underlying58⟩
instance g59 : TG Try.prog 59 true := ⟨by kernel_rfl⟩
instance u59 : TU Try.prog 59 ((Go.TypeDesc.pointer 65)) := ⟨Try.underlying59⟩
instance g60 : TG Try.prog 60 true := ⟨by kernel_rfl⟩
instance u60 : TU Try.prog 60 ((Go.TypeDesc.func #[22, 23] #[59] Bool.false)) := ⟨Try.underlying60⟩
instance g61 : TG Try.prog 61 true := ⟨by kernel_rfl⟩
instance u61 : TU Try.prog 61 ((Go.TypeDesc.map 83 46)) := ⟨Try.underlying61⟩
instance g62 : TG Try.prog 62 true := ⟨by kernel_rfl⟩
instance u62 : TU Try.prog 62 ((Go.TypeDesc.func #[3, 3, 3] #[4] Bool.false)) := ⟨Try.underlying62⟩
instance g63 : TG Try.prog 63 true := ⟨by kernel_rfl⟩
instance u63 : TU Try.prog 63 ((Go.TypeDesc.func #[83] #[4] Bool.false)) := ⟨Try.underlying63⟩
instance g64 : TG Try.prog 64 false := ⟨by kernel_rfl⟩
instance b64 : TB Try.prog 64 [(0, 1), (1, 1), (2, 1), (3, 1), (4, 1), (5, 1)] := ⟨by kernel_rfl⟩
instance s64 : TS Try.prog 64 [(22, 0), (54, 1), (23, 2), (61, 3), (62, 4), (63, 5)] := ts_of (by kernel_rfl)
instance g65 : TG Try.prog 65 false := ⟨by kernel_rfl⟩
instance b65 : TB Try.prog 65 [(0, 1), (1, 1), (2, 1), (3, 1), (4, 1), (5, 1)] := ⟨by kernel_rfl⟩
instance s65 : TS Try.prog 65 [(22, 0), (54, 1), (23, 2), (61, 3), (62, 4), (63, 5)] := ts_of (by kernel_rfl)
instance g66 : TG Try.prog 66 true := ⟨by kernel_rfl⟩
instance u66 : TU Try.prog 66 ((Go.TypeDesc.func #[25] #[31] Bool.false)) := ⟨Try.underlying66⟩
instance g67 : TG Try.prog 67 true := ⟨by kernel_rfl⟩
instance u67 : TU Try.prog 67 ((Go.TypeDesc.func #[22] #[31] Bool.false)) := ⟨Try.underlying67⟩
instance g68 : TG Try.prog 68 true := ⟨by kernel_rfl⟩
instance u68 : TU Try.prog 68 ((Go.TypeDesc.func #[22, 35, 31] #[] Bool.false)) := ⟨Try.underlying68⟩
instance g69 : TG Try.prog 69 true := ⟨by kernel_rfl⟩
instance u69 : TU Try.prog 69 ((Go.TypeDesc.func #[22, 3, 23, 42] #[42] Bool.false)) := ⟨Try.underlying69⟩
instance g70 : TG Try.prog 70 true := ⟨by kernel_rfl⟩
instance u70 : TU Try.prog 70 ((Go.TypeDesc.pointer 72)) := ⟨Try.underlying70⟩
instance g71 : TG Try.prog 71 false := ⟨by kernel_rfl⟩
instance b71 : TB Try.prog 71 [(0, 1), (1, 1), (2, 1)] := ⟨by kernel_rfl⟩
instance s71 : TS Try.prog 71 [(22, 0), (3, 1), (42, 2)] := ts_of (by kernel_rfl)
instance g72 : TG Try.prog 72 false := ⟨by kernel_rfl⟩
instance b72 : TB Try.prog 72 [(0, 1), (1, 1), (2, 1)] := ⟨by kernel_rfl⟩
instance s72 : TS Try.prog 72 [(22, 0), (3, 1), (42, 2)] := ts_of (by kernel_rfl)
instance g73 : TG Try.prog 73 true := ⟨by kernel_rfl⟩
instance u73 : TU Try.prog 73 ((Go.TypeDesc.func #[3, 3] #[4] Bool.false)) := ⟨Try.underlying73⟩
instance g75 : TG Try.prog 75 true := ⟨by kernel_rfl⟩
instance u75 : TU Try.prog 75 ((Go.TypeDesc.func #[22, 3] #[3, 3] Bool.false)) := ⟨Try.underlying75⟩
instance g76 : TG Try.prog 76 true := ⟨by kernel_rfl⟩
instance u76 : TU Try.prog 76 ((Go.TypeDesc.func #[49, 5] #[4] Bool.false)) := ⟨Try.underlying76⟩
instance g77 : TG Try.prog 77 true := ⟨by kernel_rfl⟩
instance u77 : TU Try.prog 77 ((Go.TypeDesc.func #[22, 23, 35, 3, 3] #[28] Bool.false)) := ⟨Try.underlying77⟩
instance g78 : TG Try.prog 78 true := ⟨by kernel_rfl⟩
instance u78 : TU Try.prog 78 ((Go.TypeDesc.func #[22, 23, 35, 3] #[28] Bool.false)) := ⟨Try.underlying78⟩
instance g79 : TG Try.prog 79 true := ⟨by kernel_rfl⟩
instance u79 : TU Try.prog 79 ((Go.TypeDesc.pointer 81)) := ⟨Try.underlying79⟩
instance g80 : TG Try.prog 80 false := ⟨by kernel_rfl⟩
instance b80 : TB Try.prog 80 [(0, 1), (1, 1), (2, 1)] := ⟨by kernel_rfl⟩
instance s80 : TS Try.prog 80 [(22, 0), (3, 1), (42, 2)] := ts_of (by kernel_rfl)
instance g81 : TG Try.prog 81 false := ⟨by kernel_rfl⟩
instance b81 : TB Try.prog 81 [(0, 1), (1, 1), (2, 1)] := ⟨by kernel_rfl⟩
instance s81 : TS Try.prog 81 [(22, 0), (3, 1), (42, 2)] := ts_of (by kernel_rfl)
instance g82 : TG Try.prog 82 false := ⟨by kernel_rfl⟩
instance e82 : EG Try.prog 82 := ⟨by kernel_rfl⟩
instance b82 : TB Try.prog 82 [(0, 1), (1, 1), (2, 1), (3, 1)] := ⟨by kernel_rfl⟩
instance tq82 : TQ Try.prog 82 [(3, 0), (3, 1), (3, 2), (3, 3)] := ⟨by kernel_rfl⟩
instance s82 : TS Try.prog 82 [(3, 0), (3, 1), (3, 2), (3, 3)] := ts_of (by kernel_rfl)
instance g83 : TG Try.prog 83 false := ⟨by kernel_rfl⟩
instance e83 : EG Try.prog 83 := ⟨by kernel_rfl⟩
instance b83 : TB Try.prog 83 [(0, 1), (1, 1), (2, 1), (3, 1)] := ⟨by kernel_rfl⟩
instance tq83 : TQ Try.prog 83 [(3, 0), (3, 1), (3, 2), (3, 3)] := ⟨by kernel_rfl⟩
instance s83 : TS Try.prog 83 [(3, 0), (3, 1), (3, 2), (3, 3)] := ts_of (by kernel_rfl)
instance g84 : TG Try.prog 84 true := ⟨by kernel_rfl⟩
instance u84 : TU Try.prog 84 ((Go.TypeDesc.func #[3, 3, 3, 31] #[] Bool.false)) := ⟨Try.underlying84⟩
instance g85 : TG Try.prog 85 true := ⟨by kernel_rfl⟩
instance u85 : TU Try.prog 85 ((Go.TypeDesc.pointer 87)) := ⟨Try.underlying85⟩
instance g86 : TG Try.prog 86 false := ⟨by kernel_rfl⟩
instance b86 : TB Try.prog 86 [(0, 1), (1, 1), (2, 1)] := ⟨by kernel_rfl⟩
instance s86 : TS Try.prog 86 [(22, 0), (23, 1), (31, 2)] := ts_of (by kernel_rfl)
instance g87 : TG Try.prog 87 false := ⟨by kernel_rfl⟩
instance b87 : TB Try.prog 87 [(0, 1), (1, 1), (2, 1)] := ⟨by kernel_rfl⟩
instance s87 : TS Try.prog 87 [(22, 0), (23, 1), (31, 2)] := ts_of (by kernel_rfl)
instance g88 : TG Try.prog 88 true := ⟨by kernel_rfl⟩
instance u88 : TU Try.prog 88 ((Go.TypeDesc.func #[3] #[] Bool.false)) := ⟨Try.underlying88⟩
instance g90 : TG Try.prog 90 true := ⟨by kernel_rfl⟩
instance u90 : TU Try.prog 90 ((Go.TypeDesc.func #[42, 42] #[42, 4] Bool.false)) := ⟨Try.underlying90⟩
instance g91 : TG Try.prog 91 true := ⟨by kernel_rfl⟩
instance u91 : TU Try.prog 91 ((Go.TypeDesc.func #[51] #[4] Bool.false)) := ⟨Try.underlying91⟩
instance g92 : TG Try.prog 92 true := ⟨by kernel_rfl⟩
instance u92 : TU Try.prog 92 ((Go.TypeDesc.func #[28, 35] #[28] Bool.false)) := ⟨Try.underlying92⟩
instance g93 : TG Try.prog 93 true := ⟨by kernel_rfl⟩
instance u93 : TU Try.prog 93 ((Go.TypeDesc.int Go.IntKind.u64)) := ⟨Try.underlying93⟩
instance g95 : TG Try.prog 95 true := ⟨by kernel_rfl⟩
instance u95 : TU Try.prog 95 ((Go.TypeDesc.func #[83] #[3, 4] Bool.false)) := ⟨Try.underlying95⟩
instance g96 : TG Try.prog 96 true := ⟨by kernel_rfl⟩
instance u96 : TU Try.prog 96 ((Go.TypeDesc.func #[3, 31] #[] Bool.false)) := ⟨Try.underlying96⟩
instance g97 : TG Try.prog 97 true := ⟨by kernel_rfl⟩
instance u97 : TU Try.prog 97 ((Go.TypeDesc.func #[] #[9] Bool.false)) := ⟨Try.underlying97⟩
instance g98 : TG Try.prog 98 false := ⟨by kernel_rfl⟩
instance b98 : TB Try.prog 98 [(0, 1), (1, 1), (2, 1), (3, 1)] := ⟨by kernel_rfl⟩
instance s98 : TS Try.prog 98 [(17, 0), (17, 1), (17, 2), (9, 3)] := ts_of (by kernel_rfl)
instance g99 : TG Try.prog 99 false := ⟨by kernel_rfl⟩
instance b99 : TB Try.prog 99 [(0, 1), (1, 1), (2, 1), (3, 1)] := ⟨by kernel_rfl⟩
instance s99 : TS Try.prog 99 [(17, 0), (17, 1), (17, 2), (9, 3)] := ts_of (by kernel_rfl)
instance g100 : TG Try.prog 100 false := ⟨by kernel_rfl⟩
instance u100 : TU Try.prog 100 ((Go.TypeDesc.array 0 16)) := ⟨Try.underlying100⟩
instance g101 : TG Try.prog 101 false := ⟨by kernel_rfl⟩
instance b101 : TB Try.prog 101 [(0, 0)] := ⟨by kernel_rfl⟩
instance s101 : TS Try.prog 101 [(100, 0)] := ts_of (by kernel_rfl)
instance g102 : TG Try.prog 102 false := ⟨by kernel_rfl⟩
instance b102 : TB Try.prog 102 [(0, 0)] := ⟨by kernel_rfl⟩
instance s102 : TS Try.prog 102 [(100, 0)] := ts_of (by kernel_rfl)
instance g103 : TG Try.prog 103 true := ⟨by kernel_rfl⟩
instance u103 : TU Try.prog 103 ((Go.TypeDesc.func #[] #[3] Bool.false)) := ⟨Try.underlying103⟩
instance g104 : TG Try.prog 104 true := ⟨by kernel_rfl⟩
instance u104 : TU Try.prog 104 ((Go.TypeDesc.int Go.IntKind.u32)) := ⟨Try.underlying104⟩
instance g105 : TG Try.prog 105 true := ⟨by kernel_rfl⟩
instance u105 : TU Try.prog 105 ((Go.TypeDesc.int Go.IntKind.u8)) := ⟨Try.underlying105⟩
instance g106 : TG Try.prog 106 true := ⟨by kernel_rfl⟩
instance u106 : TU Try.prog 106 ((Go.TypeDesc.int Go.IntKind.u8)) := ⟨Try.underlying106⟩
instance g107 : TG Try.prog 107 true := ⟨by kernel_rfl⟩
instance u107 : TU Try.prog 107 ((Go.TypeDesc.func #[113, 113] #[4] Bool.false)) := ⟨Try.underlying107⟩
instance g108 : TG Try.prog 108 true := ⟨by kernel_rfl⟩
instance u108 : TU Try.prog 108 ((Go.TypeDesc.pointer 5)) := ⟨Try.underlying108⟩
instance g109 : TG Try.prog 109 true := ⟨by kernel_rfl⟩
instance u109 : TU Try.prog 109 ((Go.TypeDesc.int Go.IntKind.i32)) := ⟨Try.underlying109⟩
instance g110 : TG Try.prog 110 true := ⟨by kernel_rfl⟩
instance u110 : TU Try.prog 110 ((Go.TypeDesc.int Go.IntKind.i32)) := ⟨Try.underlying110⟩
instance g111 : TG Try.prog 111 false := ⟨by kernel_rfl⟩
instance b111 : TB Try.prog 111 [(0, 1), (1, 1), (2, 1), (3, 1), (4, 1), (5, 1), (6, 1), (7, 1), (8, 1), (9, 1), (10, 1)] := ⟨by kernel_rfl⟩
instance s111 : TS Try.prog 111 [(12, 0), (12, 1), (104, 2), (105, 3), (5, 4), (5, 5), (106, 6), (107, 7), (108, 8), (109, 9), (110, 10)] := ts_of (by kernel_rfl)
instance g112 : TG Try.prog 112 false := ⟨by kernel_rfl⟩
instance b112 : TB Try.prog 112 [(0, 1), (1, 1), (2, 1), (3, 1), (4, 1), (5, 1), (6, 1), (7, 1), (8, 1), (9, 1), (10, 1)] := ⟨by kernel_rfl⟩
instance s112 : TS Try.prog 112 [(12, 0), (12, 1), (104, 2), (105, 3), (5, 4), (5, 5), (106, 6), (107, 7), (108, 8), (109, 9), (110, 10)] := ts_of (by kernel_rfl)
instance g113 : TG Try.prog 113 true := ⟨by kernel_rfl⟩
instance u113 : TU Try.prog 113 (Go.TypeDesc.unsafePointer) := ⟨Try.underlying113⟩
instance i1 : TI Try.prog 1 1 8 := ti_of (by kernel_rfl)
instance i2 : TI Try.prog 2 1 8 := ti_of (by kernel_rfl)
instance i3 : TI Try.prog 3 1 8 := ti_of (by kernel_rfl)
instance i4 : TI Try.prog 4 1 1 := ti_of (by kernel_rfl)
instance i5 : TI Try.prog 5 1 1 := ti_of (by kernel_rfl)
instance i6 : TI Try.prog 6 1 1 := ti_of (by kernel_rfl)
instance i7 : TI Try.prog 7 4 24 := ti_of (by kernel_rfl)
instance i8 : TI Try.prog 8 4 24 := ti_of (by kernel_rfl)
instance i9 : TI Try.prog 9 1 16 := ti_of (by kernel_rfl)
instance i10 : TI Try.prog 10 1 16 := ti_of (by kernel_rfl)
instance i11 : TI Try.prog 11 1 16 := ti_of (by kernel_rfl)
instance i12 : TI Try.prog 12 1 8 := ti_of (by kernel_rfl)
instance i13 : TI Try.prog 13 2 24 := ti_of (by kernel_rfl)
instance i14 : TI Try.prog 14 2 24 := ti_of (by kernel_rfl)
instance i15 : TI Try.prog 15 1 8 := ti_of (by kernel_rfl)
instance i16 : TI Try.prog 16 1 8 := ti_of (by kernel_rfl)
instance i17 : TI Try.prog 17 1 8 := ti_of (by kernel_rfl)
instance i18 : TI Try.prog 18 1 8 := ti_of (by kernel_rfl)
instance i19 : TI Try.prog 19 1 8 := ti_of (by kernel_rfl)
instance i20 : TI Try.prog 20 1 16 := ti_of (by kernel_rfl)
instance i21 : TI Try.prog 21 1 4 := ti_of (by kernel_rfl)
instance i22 : TI Try.prog 22 1 24 := ti_of (by kernel_rfl)
instance i23 : TI Try.prog 23 1 24 := ti_of (by kernel_rfl)
instance i24 : TI Try.prog 24 2 16 := ti_of (by kernel_rfl)
instance i25 : TI Try.prog 25 2 16 := ti_of (by kernel_rfl)
instance i26 : TI Try.prog 26 1 8 := ti_of (by kernel_rfl)
instance i27 : TI Try.prog 27 1 8 := ti_of (by kernel_rfl)
instance i28 : TI Try.prog 28 1 24 := ti_of (by kernel_rfl)
instance i30 : TI Try.prog 30 1 8 := ti_of (by kernel_rfl)
instance i31 : TI Try.prog 31 1 24 := ti_of (by kernel_rfl)
instance i33 : TI Try.prog 33 1 8 := ti_of (by kernel_rfl)
instance i34 : TI Try.prog 34 4 48 := ti_of (by kernel_rfl)
instance i35 : TI Try.prog 35 4 48 := ti_of (by kernel_rfl)
instance i36 : TI Try.prog 36 1 8 := ti_of (by kernel_rfl)
instance i37 : TI Try.prog 37 1 8 := ti_of (by kernel_rfl)
instance i38 : TI Try.prog 38 1 8 := ti_of (by kernel_rfl)
instance i39 : TI Try.prog 39 1 8 := ti_of (by kernel_rfl)
instance i40 : TI Try.prog 40 1 8 := ti_of (by kernel_rfl)
instance i41 : TI Try.prog 41 1 8 := ti_of (by kernel_rfl)
instance i42 : TI Try.prog 42 1 24 := ti_of (by kernel_rfl)
instance i43 : TI Try.prog 43 1 8 := ti_of (by kernel_rfl)
instance i44 : TI Try.prog 44 1 8 := ti_of (by kernel_rfl)
instance i45 : TI Try.prog 45 1 8 := ti_of (by kernel_rfl)
instance i46 : TI Try.prog 46 1 1 := ti_of (by kernel_rfl)
instance i47 : TI Try.prog 47 1 8 := ti_of (by kernel_rfl)
instance i48 : TI Try.prog 48 4 32 := ti_of (by kernel_rfl)
instance i49 : TI Try.prog 49 4 32 := ti_of (by kernel_rfl)
instance i50 : TI Try.prog 50 9 72 := ti_of (by kernel_rfl)
instance i51 : TI Try.prog 51 9 72 := ti_of (by kernel_rfl)
instance i52 : TI Try.prog 52 1 8 := ti_of (by kernel_rfl)
instance i53 : TI Try.prog 53 1 8 := ti_of (by kernel_rfl)
instance i54 : TI Try.prog 54 1 24 := ti_of (by kernel_rfl)
instance i55 : TI Try.prog 55 1 8 := ti_of (by kernel_rfl)
instance i56 : TI Try.prog 56 1 8 := ti_of (by kernel_rfl)
instance i57 : TI Try.prog 57 1 8 := ti_of (by kernel_rfl)
instance i58 : TI Try.prog 58 1 8 := ti_of (by kernel_rfl)
instance i59 : TI Try.prog 59 1 8 := ti_of (by kernel_rfl)
instance i60 : TI Try.prog 60 1 8 := ti_of (by kernel_rfl)
instance i61 : TI Try.prog 61 1 8 := ti_of (by kernel_rfl)
instance i62 : TI Try.prog 62 1 8 := ti_of (by kernel_rfl)
instance i63 : TI Try.prog 63 1 8 := ti_of (by kernel_rfl)
instance i64 : TI Try.prog 64 6 96 := ti_of (by kernel_rfl)
instance i65 : TI Try.prog 65 6 96 := ti_of (by kernel_rfl)
instance i66 : TI Try.prog 66 1 8 := ti_of (by kernel_rfl)
instance i67 : TI Try.prog 67 1 8 := ti_of (by kernel_rfl)
instance i68 : TI Try.prog 68 1 8 := ti_of (by kernel_rfl)
instance i69 : TI Try.prog 69 1 8 := ti_of (by kernel_rfl)
instance i70 : TI Try.prog 70 1 8 := ti_of (by kernel_rfl)
instance i71 : TI Try.prog 71 3 56 := ti_of (by kernel_rfl)
instance i72 : TI Try.prog 72 3 56 := ti_of (by kernel_rfl)
instance i73 : TI Try.prog 73 1 8 := ti_of (by kernel_rfl)
instance i75 : TI Try.prog 75 1 8 := ti_of (by kernel_rfl)
instance i76 : TI Try.prog 76 1 8 := ti_of (by kernel_rfl)
instance i77 : TI Try.prog 77 1 8 := ti_of (by kernel_rfl)
instance i78 : TI Try.prog 78 1 8 := ti_of (by kernel_rfl)
instance i79 : TI Try.prog 79 1 8 := ti_of (by kernel_rfl)
instance i80 : TI Try.prog 80 3 56 := ti_of (by kernel_rfl)
instance i81 : TI Try.prog 81 3 56 := ti_of (by kernel_rfl)
instance i82 : TI Try.prog 82 4 32 := ti_of (by kernel_rfl)
instance i83 : TI Try.prog 83 4 32 := ti_of (by kernel_rfl)
instance i84 : TI Try.prog 84 1 8 := ti_of (by kernel_rfl)
instance i85 : TI Try.prog 85 1 8 := ti_of (by kernel_rfl)
instance i86 : TI Try.prog 86 3 72 := ti_of (by kernel_rfl)
instance i87 : TI Try.prog 87 3 72 := ti_of (by kernel_rfl)
instance i88 : TI Try.prog 88 1 8 := ti_of (by kernel_rfl)
instance i90 : TI Try.prog 90 1 8 := ti_of (by kernel_rfl)
instance i91 : TI Try.prog 91 1 8 := ti_of (by kernel_rfl)
instance i92 : TI Try.prog 92 1 8 := ti_of (by kernel_rfl)
instance i93 : TI Try.prog 93 1 8 := ti_of (by kernel_rfl)
instance i95 : TI Try.prog 95 1 8 := ti_of (by kernel_rfl)
instance i96 : TI Try.prog 96 1 8 := ti_of (by kernel_rfl)
instance i97 : TI Try.prog 97 1 8 := ti_of (by kernel_rfl)
instance i98 : TI Try.prog 98 4 40 := ti_of (by kernel_rfl)
instance i99 : TI Try.prog 99 4 40 := ti_of (by kernel_rfl)
instance i100 : TI Try.prog 100 0 0 := ti_of (by kernel_rfl)
instance i101 : TI Try.prog 101 0 0 := ti_of (by kernel_rfl)
instance i102 : TI Try.prog 102 0 0 := ti_of (by kernel_rfl)
instance i103 : TI Try.prog 103 1 8 := ti_of (by kernel_rfl)
instance i104 : TI Try.prog 104 1 4 := ti_of (by kernel_rfl)
instance i105 : TI Try.prog 105 1 1 := ti_of (by kernel_rfl)
instance i106 : TI Try.prog 106 1 1 := ti_of (by kernel_rfl)
instance i107 : TI Try.prog 107 1 8 := ti_of (by kernel_rfl)
instance i108 : TI Try.prog 108 1 8 := ti_of (by kernel_rfl)
instance i109 : TI Try.prog 109 1 4 := ti_of (by kernel_rfl)
instance i110 : TI Try.prog 110 1 4 := ti_of (by kernel_rfl)
instance i111 : TI Try.prog 111 11 48 := ti_of (by kernel_rfl)
instance i112 : TI Try.prog 112 11 48 := ti_of (by kernel_rfl)
instance i113 : TI Try.prog 113 1 8 := ti_of (by kernel_rfl)
instance z1 : TZ Try.prog 1 (.nilFunc) := tz_of (by kernel_rfl)
instance z2 : TZ Try.prog 2 (.int .i64 0) := tz_of (by kernel_rfl)
instance z3 : TZ Try.prog 3 (.int .i64 0) := tz_of (by kernel_rfl)
instance z4 : TZ Try.prog 4 (.bool false) := tz_of (by kernel_rfl)
instance z5 : TZ Try.prog 5 (.int .u8 0) := tz_of (by kernel_rfl)
instance z6 : TZ Try.prog 6 (.int .u8 0) := tz_of (by kernel_rfl)
instance z7 : TZ Try.prog 7 (.agg [.int .i64 0, .int .i64 0, .bool false, .int .u8 0].toArray) := tz_of (by kernel_rfl)
instance z8 : TZ Try.prog 8 (.agg [.int .i64 0, .int .i64 0, .bool false, .int .u8 0].toArray) := tz_of (by kernel_rfl)
instance z9 : TZ Try.prog 9 (.string ⟨#[]⟩) := tz_of (by kernel_rfl)
instance z10 : TZ Try.prog 10 (.string ⟨#[]⟩) := tz_of (by kernel_rfl)
instance z11 : TZ Try.prog 11 (.string ⟨#[]⟩) := tz_of (by kernel_rfl)
instance z12 : TZ Try.prog 12 (.int .u64 0) := tz_of (by kernel_rfl)
instance z13 : TZ Try.prog 13 (.agg [.string ⟨#[]⟩, .int .u64 0].toArray) := tz_of (by kernel_rfl)
instance z14 : TZ Try.prog 14 (.agg [.string ⟨#[]⟩, .int .u64 0].toArray) := tz_of (by kernel_rfl)
instance z15 : TZ Try.prog 15 (.pointer none) := tz_of (by kernel_rfl)
instance z16 : TZ Try.prog 16 (.pointer none) := tz_of (by kernel_rfl)
instance z17 : TZ Try.prog 17 (.pointer none) := tz_of (by kernel_rfl)
instance z18 : TZ Try.prog 18 (.agg [.pointer none].toArray) := tz_of (by kernel_rfl)
instance z19 : TZ Try.prog 19 (.agg [.pointer none].toArray) := tz_of (by kernel_rfl)
instance z20 : TZ Try.prog 20 (.nilIface) := tz_of (by kernel_rfl)
instance z21 : TZ Try.prog 21 (.int .i32 0) := tz_of (by kernel_rfl)
instance z22 : TZ Try.prog 22 (.slice none 0 0) := tz_of (by kernel_rfl)
instance z23 : TZ Try.prog 23 (.slice none 0 0) := tz_of (by kernel_rfl)
instance z24 : TZ Try.prog 24 (.agg [.int .i64 0, .int .i64 0].toArray) := tz_of (by kernel_rfl)
instance z25 : TZ Try.prog 25 (.agg [.int .i64 0, .int .i64 0].toArray) := tz_of (by kernel_rfl)
instance z26 : TZ Try.prog 26 (.nilFunc) := tz_of (by kernel_rfl)
instance z27 : TZ Try.prog 27 (.nilFunc) := tz_of (by kernel_rfl)
instance z28 : TZ Try.prog 28 (.slice none 0 0) := tz_of (by kernel_rfl)
instance z30 : TZ Try.prog 30 (.nilFunc) := tz_of (by kernel_rfl)
instance z31 : TZ Try.prog 31 (.slice none 0 0) := tz_of (by kernel_rfl)
instance z33 : TZ Try.prog 33 (.nilFunc) := tz_of (by kernel_rfl)
instance z34 : TZ Try.prog 34 (.agg [.int .i64 0, .int .i64 0, .int .i64 0, .slice none 0 0].toArray) := tz_of (by kernel_rfl)
instance z35 : TZ Try.prog 35 (.agg [.int .i64 0, .int .i64 0, .int .i64 0, .slice none 0 0].toArray) := tz_of (by kernel_rfl)
instance z36 : TZ Try.prog 36 (.nilFunc) := tz_of (by kernel_rfl)
instance z37 : TZ Try.prog 37 (.nilFunc) := tz_of (by kernel_rfl)
instance z38 : TZ Try.prog 38 (.nilFunc) := tz_of (by kernel_rfl)
instance z39 : TZ Try.prog 39 (.nilFunc) := tz_of (by kernel_rfl)
instance z40 : TZ Try.prog 40 (.nilFunc) := tz_of (by kernel_rfl)
instance z41 : TZ Try.prog 41 (.nilFunc) := tz_of (by kernel_rfl)
instance z42 : TZ Try.prog 42 (.slice none 0 0) := tz_of (by kernel_rfl)
instance z43 : TZ Try.prog 43 (.nilFunc) := tz_of (by kernel_rfl)
instance z44 : TZ Try.prog 44 (.nilFunc) := tz_of (by kernel_rfl)
instance z45 : TZ Try.prog 45 (.nilFunc) := tz_of (by kernel_rfl)
instance z46 : TZ Try.prog 46 (.int .i8 0) := tz_of (by kernel_rfl)
instance z47 : TZ Try.prog 47 (.int .u64 0) := tz_of (by kernel_rfl)
instance z48 : TZ Try.prog 48 (.agg [.int .u64 0, .int .u64 0, .int .u64 0, .int .u64 0].toArray) := tz_of (by kernel_rfl)
instance z49 : TZ Try.prog 49 (.agg [.int .u64 0, .int .u64 0, .int .u64 0, .int .u64 0].toArray) := tz_of (by kernel_rfl)
instance z50 : TZ Try.prog 50 (.agg [.int .i8 0, .int .u64 0, .int .u64 0, .int .u64 0, .int .u64 0, .int .i64 0, .int .i64 0, .int .i64 0, .int .i64 0].toArray) := tz_of (by kernel_rfl)
instance z51 : TZ Try.prog 51 (.agg [.int .i8 0, .int .u64 0, .int .u64 0, .int .u64 0, .int .u64 0, .int .i64 0, .int .i64 0, .int .i64 0, .int .i64 0].toArray) := tz_of (by kernel_rfl)
instance z52 : TZ Try.prog 52 (.nilFunc) := tz_of (by kernel_rfl)
instance z53 : TZ Try.prog 53 (.nilFunc) := tz_of (by kernel_rfl)
instance z54 : TZ Try.prog 54 (.slice none 0 0) := tz_of (by kernel_rfl)
instance z55 : TZ Try.prog 55 (.pointer none) := tz_of (by kernel_rfl)
instance z56 : TZ Try.prog 56 (.agg [.int .i64 0].toArray) := tz_of (by kernel_rfl)
instance z57 : TZ Try.prog 57 (.agg [.int .i64 0].toArray) := tz_of (by kernel_rfl)
instance z58 : TZ Try.prog 58 (.nilFunc) := tz_of (by kernel_rfl)
instance z59 : TZ Try.prog 59 (.pointer none) := tz_of (by kernel_rfl)
instance z60 : TZ Try.prog 60 (.nilFunc) := tz_of (by kernel_rfl)
instance z61 : TZ Try.prog 61 (.map none) := tz_of (by kernel_rfl)
instance z62 : TZ Try.prog 62 (.nilFunc) := tz_of (by kernel_rfl)
instance z63 : TZ Try.prog 63 (.nilFunc) := tz_of (by kernel_rfl)
instance z64 : TZ Try.prog 64 (.agg [.slice none 0 0, .slice none 0 0, .slice none 0 0, .map none, .nilFunc, .nilFunc].toArray) := tz_of (by kernel_rfl)
instance z65 : TZ Try.prog 65 (.agg [.slice none 0 0, .slice none 0 0, .slice none 0 0, .map none, .nilFunc, .nilFunc].toArray) := tz_of (by kernel_rfl)
instance z66 : TZ Try.prog 66 (.nilFunc) := tz_of (by kernel_rfl)
instance z67 : TZ Try.prog 67 (.nilFunc) := tz_of (by kernel_rfl)
instance z68 : TZ Try.prog 68 (.nilFunc) := tz_of (by kernel_rfl)
instance z69 : TZ Try.prog 69 (.nilFunc) := tz_of (by kernel_rfl)
instance z70 : TZ Try.prog 70 (.pointer none) := tz_of (by kernel_rfl)
instance z71 : TZ Try.prog 71 (.agg [.slice none 0 0, .int .i64 0, .slice none 0 0].toArray) := tz_of (by kernel_rfl)
instance z72 : TZ Try.prog 72 (.agg [.slice none 0 0, .int .i64 0, .slice none 0 0].toArray) := tz_of (by kernel_rfl)
instance z73 : TZ Try.prog 73 (.nilFunc) := tz_of (by kernel_rfl)
instance z75 : TZ Try.prog 75 (.nilFunc) := tz_of (by kernel_rfl)
instance z76 : TZ Try.prog 76 (.nilFunc) := tz_of (by kernel_rfl)
instance z77 : TZ Try.prog 77 (.nilFunc) := tz_of (by kernel_rfl)
instance z78 : TZ Try.prog 78 (.nilFunc) := tz_of (by kernel_rfl)
instance z79 : TZ Try.prog 79 (.pointer none) := tz_of (by kernel_rfl)
instance z80 : TZ Try.prog 80 (.agg [.slice none 0 0, .int .i64 0, .slice none 0 0].toArray) := tz_of (by kernel_rfl)
instance z81 : TZ Try.prog 81 (.agg [.slice none 0 0, .int .i64 0, .slice none 0 0].toArray) := tz_of (by kernel_rfl)
instance z82 : TZ Try.prog 82 (.agg [.int .i64 0, .int .i64 0, .int .i64 0, .int .i64 0].toArray) := tz_of (by kernel_rfl)
instance z83 : TZ Try.prog 83 (.agg [.int .i64 0, .int .i64 0, .int .i64 0, .int .i64 0].toArray) := tz_of (by kernel_rfl)
instance z84 : TZ Try.prog 84 (.nilFunc) := tz_of (by kernel_rfl)
instance z85 : TZ Try.prog 85 (.pointer none) := tz_of (by kernel_rfl)
instance z86 : TZ Try.prog 86 (.agg [.slice none 0 0, .slice none 0 0, .slice none 0 0].toArray) := tz_of (by kernel_rfl)
instance z87 : TZ Try.prog 87 (.agg [.slice none 0 0, .slice none 0 0, .slice none 0 0].toArray) := tz_of (by kernel_rfl)
instance z88 : TZ Try.prog 88 (.nilFunc) := tz_of (by kernel_rfl)
instance z90 : TZ Try.prog 90 (.nilFunc) := tz_of (by kernel_rfl)
instance z91 : TZ Try.prog 91 (.nilFunc) := tz_of (by kernel_rfl)
instance z92 : TZ Try.prog 92 (.nilFunc) := tz_of (by kernel_rfl)
instance z93 : TZ Try.prog 93 (.int .u64 0) := tz_of (by kernel_rfl)
instance z95 : TZ Try.prog 95 (.nilFunc) := tz_of (by kernel_rfl)
instance z96 : TZ Try.prog 96 (.nilFunc) := tz_of (by kernel_rfl)
instance z97 : TZ Try.prog 97 (.nilFunc) := tz_of (by kernel_rfl)
instance z98 : TZ Try.prog 98 (.agg [.pointer none, .pointer none, .pointer none, .string ⟨#[]⟩].toArray) := tz_of (by kernel_rfl)
instance z99 : TZ Try.prog 99 (.agg [.pointer none, .pointer none, .pointer none, .string ⟨#[]⟩].toArray) := tz_of (by kernel_rfl)
instance z100 : TZ Try.prog 100 (.agg [].toArray) := tz_of (by kernel_rfl)
instance z101 : TZ Try.prog 101 (.agg [].toArray) := tz_of (by kernel_rfl)
instance z102 : TZ Try.prog 102 (.agg [].toArray) := tz_of (by kernel_rfl)
instance z103 : TZ Try.prog 103 (.nilFunc) := tz_of (by kernel_rfl)
instance z104 : TZ Try.prog 104 (.int .u32 0) := tz_of (by kernel_rfl)
instance z105 : TZ Try.prog 105 (.int .u8 0) := tz_of (by kernel_rfl)
instance z106 : TZ Try.prog 106 (.int .u8 0) := tz_of (by kernel_rfl)
instance z107 : TZ Try.prog 107 (.nilFunc) := tz_of (by kernel_rfl)
instance z108 : TZ Try.prog 108 (.pointer none) := tz_of (by kernel_rfl)
instance z109 : TZ Try.prog 109 (.int .i32 0) := tz_of (by kernel_rfl)
instance z110 : TZ Try.prog 110 (.int .i32 0) := tz_of (by kernel_rfl)
instance z111 : TZ Try.prog 111 (.agg [.int .u64 0, .int .u64 0, .int .u32 0, .int .u8 0, .int .u8 0, .int .u8 0, .int .u8 0, .nilFunc, .pointer none, .int .i32 0, .int .i32 0].toArray) := tz_of (by kernel_rfl)
instance z112 : TZ Try.prog 112 (.agg [.int .u64 0, .int .u64 0, .int .u32 0, .int .u8 0, .int .u8 0, .int .u8 0, .int .u8 0, .nilFunc, .pointer none, .int .i32 0, .int .i32 0].toArray) := tz_of (by kernel_rfl)
instance z113 : TZ Try.prog 113 (.pointer none) := tz_of (by kernel_rfl)
end Go.Proofs.Ytiggliigookieaa

/- Part of the proofs over this seat: see the text that holds the theorem. Conditions: each theorem bears its own. -/
namespace Go.HL.Kl
open Go Go.HL

/-! classes: sets of bytes, as numbers of 256 bits -/
abbrev Cl := BitVec 256
def wd (c : Cl) (i : Nat) : BitVec 64 := c.extractLsb' (64 * i) 64
def Ew (w : BitVec 64) : Value := .int .u64 w.toNat
def Ec (c : Cl) : List Value := [Ew (wd c 0), Ew (wd c 1), Ew (wd c 2), Ew (wd c 3)]
instance : Enc Ec 4 := ⟨fun _ => rfl, fun c v hv => by simp [Ec, Ew] at hv; rcases hv with rfl | rfl | rfl | rfl <;> rfl⟩
theorem Ec_one (c : Cl) : ∀ v ∈ Ec c, v.oneCell' = true := Enc.one c
theorem Ec_get (c : Cl) {i : Nat} (h : i < 4) : (Ec c)[i]? = some (Ew (wd c i)) := by
  match i, h with
  | 0, _ => rfl
  | 1, _ => rfl
  | 2, _ => rfl
  | 3, _ => rfl
def setw (c : Cl) (i : Nat) (w : BitVec 64) : Cl := (c &&& ~~~ ((BitVec.allOnes 64).setWidth 256 <<< (64 * i))) ||| (w.setWidth 256 <<< (64 * i))
theorem setw_get (c : Cl) {i : Nat} (w : BitVec 64) (_hi : i < 4) {j : Nat} (hj : j < 256) : (setw c i w).getLsbD j = if 64 * i ≤ j ∧ j < 64 * i + 64 then w.getLsbD (j - 64 * i) else c.getLsbD j := by
  simp only [setw, BitVec.getLsbD_or, BitVec.getLsbD_and, BitVec.getLsbD_not, BitVec.getLsbD_shiftLeft, BitVec.getLsbD_setWidth, BitVec.getLsbD_allOnes, hj, decide_true, Bool.true_and]
  by_cases h1 : j < 64 * i
  · simp [h1]; omega
  · have h2 : 64 * i ≤ j := by omega
    by_cases h3 : j < 64 * i + 64
    · have h4 : j - 64 * i < 64 := by omega
      have h5 : j - 64 * i < 256 := by omega
      simp [h1, h2, h3, h4, h5]
    · have h4 : ¬ (j - 64 * i < 64) := by omega
      have h5 : w.getLsbD (j - 64 * i) = false := BitVec.getLsbD_of_ge _ _ (by omega)
      simp [h1, h3, h4, h5]
theorem wd_get (c : Cl) (i : Nat) {j : Nat} (hj : j < 64) : (wd c i).getLsbD j = c.getLsbD (64 * i + j) := by
  simp [wd, hj]
theorem wd_setw (c : Cl) {i k : Nat} (w : BitVec 64) (hi : i < 4) (hk : k < 4) : wd (setw c i w) k = if i = k then w else wd c k := by
  apply BitVec.eq_of_getLsbD_eq
  intro j hj
  rw [wd_get _ _ hj, setw_get _ _ hi (by omega)]
  by_cases e : i = k
  · subst e
    have : 64 * i + j - 64 * i = j := by omega
    rw [if_pos (by omega), if_pos rfl, this]
  · rw [if_neg (by omega), if_neg e, wd_get _ _ hj]
theorem Ec_set (c : Cl) {i : Nat} (w : BitVec 64) (hi : i < 4) : (Ec c).set i (Ew w) = Ec (setw c i w) := by
  simp only [Ec, wd_setw c w hi (by decide : 0 < 4), wd_setw c w hi (by decide : 1 < 4), wd_setw c w hi (by decide : 2 < 4), wd_setw c w hi (by decide : 3 < 4)]
  match i, hi with
  | 0, _ => rfl
  | 1, _ => rfl
  | 2, _ => rfl
  | 3, _ => rfl
theorem ext_wd {c d : Cl} (h : ∀ i, i < 4 → wd c i = wd d i) : c = d := by
  apply BitVec.eq_of_getLsbD_eq
  intro j hj
  have h1 := congrArg (fun w => BitVec.getLsbD w (j % 64)) (h (j / 64) (by omega))
  simp only [wd_get _ _ (show j % 64 < 64 by omega)] at h1
  have : 64 * (j / 64) + j % 64 = j := by omega
  rwa [this] at h1
theorem Ec_inj {c d : Cl} (h : Ec c = Ec d) : c = d := by
  simp only [Ec, Ew, List.cons.injEq, Value.int.injEq, true_and, and_true] at h
  obtain ⟨h0, h1, h2, h3⟩ := h
  refine ext_wd fun i hi => ?_
  match i, hi with
  | 0, _ => exact BitVec.eq_of_toNat_eq (by omega)
  | 1, _ => exact BitVec.eq_of_toNat_eq (by omega)
  | 2, _ => exact BitVec.eq_of_toNat_eq (by omega)
  | 3, _ => exact BitVec.eq_of_toNat_eq (by omega)
/-- the numbers of a class, as the comparison sees them -/
def Ic (c : Cl) : List Int := [((wd c 0).toNat : Int), ((wd c 1).toNat : Int), ((wd c 2).toNat : Int), ((wd c 3).toNat : Int)]
theorem Ec_ints (c : Cl) : Ec c = intsV .u64 (Ic c) := rfl
theorem Ic_inj {c d : Cl} : Ic c = Ic d ↔ c = d := ⟨fun h => Ec_inj (by rw [Ec_ints, Ec_ints, h]), fun h => by rw [h]⟩

/-! one byte -/
def bit (x : Nat) : Cl := 1#256 <<< x
theorem bit_get {x j : Nat} (hj : j < 256) : (bit x).getLsbD j = decide (j = x) := by
  simp only [bit, BitVec.getLsbD_shiftLeft, hj, decide_true, Bool.true_and, BitVec.getLsbD_one]
  by_cases h : j = x
  · subst h; simp
  · by_cases h2 : j < x
    · simp [h, h2]
    · have : ¬ (j - x = 0) := by omega
      simp [h, h2]; omega
theorem with_eq (c : Cl) {x : Nat} (hx : x < 256) : setw c (x / 64) (wd c (x / 64) ||| (1#64 <<< (x % 64))) = c ||| bit x := by
  apply BitVec.eq_of_getLsbD_eq
  intro j hj
  rw [setw_get _ _ (by omega) hj, BitVec.getLsbD_or (x := c), bit_get hj]
  by_cases h : 64 * (x / 64) ≤ j ∧ j < 64 * (x / 64) + 64
  · rw [if_pos h, BitVec.getLsbD_or, wd_get _ _ (by omega)]
    have e : 64 * (x / 64) + (j - 64 * (x / 64)) = j := by omega
    rw [e]
    congr 1
    simp only [BitVec.getLsbD_shiftLeft, BitVec.getLsbD_one]
    by_cases h2 : j = x
    · have h3 : j - 64 * (x / 64) = x % 64 := by omega
      simp [h2]; omega
    · have h3 : ¬ (j - 64 * (x / 64) = x % 64) := by omega
      by_cases h4 : j - 64 * (x / 64) < x % 64
      · simp [h2, h4]
      · have h5 : ¬ (j - 64 * (x / 64) - x % 64 = 0) := by omega
        simp [h2, h4]; omega
  · rw [if_neg h]
    have h2 : ¬ (j = x) := by omega
    simp [h2]

/-! the program's arithmetic on bytes and words -/
theorem wrap_u64 (n : Int) : IntKind.u64.wrap n = n % 18446744073709551616 := by simp [IntKind.wrap, IntKind.signed, IntKind.bits]
theorem wrap64 (w : BitVec 64) : IntKind.u64.wrap (w.toNat : Int) = w.toNat := by
  have := w.isLt
  rw [wrap_u64]; omega
theorem of64 (w : BitVec 64) : BitVec.ofInt IntKind.u64.bits (w.toNat : Int) = w := by
  apply BitVec.eq_of_toNat_eq
  have := w.isLt
  simp [IntKind.bits]
theorem v_or (a b : BitVec 64) : Value.int .u64 (IntKind.u64.wrap (BitVec.ofInt IntKind.u64.bits (a.toNat : Int) ||| BitVec.ofInt IntKind.u64.bits (b.toNat : Int)).toNat) = Ew (a ||| b) := by
  rw [of64, of64]; exact congrArg _ (wrap64 _)
theorem v_and (a b : BitVec 64) : Value.int .u64 (IntKind.u64.wrap (BitVec.ofInt IntKind.u64.bits (a.toNat : Int) &&& BitVec.ofInt IntKind.u64.bits (b.toNat : Int)).toNat) = Ew (a &&& b) := by
  rw [of64, of64]; exact congrArg _ (wrap64 _)
/-- x & 63, x % 64 -/
theorem v_and63 {x : Nat} (hx : x < 256) : IntKind.u8.wrap (BitVec.ofInt IntKind.u8.bits (x : Int) &&& BitVec.ofInt IntKind.u8.bits 63).toNat = ((x % 64 : Nat) : Int) := by
  have : ∀ x : Fin 256, IntKind.u8.wrap (BitVec.ofInt IntKind.u8.bits (x.val : Int) &&& BitVec.ofInt IntKind.u8.bits 63).toNat = ((x.val % 64 : Nat) : Int) := by decide +kernel
  exact this ⟨x, hx⟩
theorem v_shl1 {k : Nat} (hk : k < 64) : Value.int .u64 (IntKind.u64.wrap (1 * 2 ^ (min ((k : Nat) : Int).toNat IntKind.u64.bits))) = Ew (1#64 <<< k) := by
  have e : min ((k : Nat) : Int).toNat IntKind.u64.bits = k := by simp [IntKind.bits]; omega
  rw [e]
  have h1 : (2 : Nat) ^ k < 2 ^ 64 := Nat.pow_lt_pow_right (by decide) hk
  have h2 : ((2 : Int) ^ k) = ((2 ^ k : Nat) : Int) := by simp
  simp only [Ew, Value.int.injEq, true_and, Int.one_mul]
  rw [h2, wrap_u64]
  have h3 : (1#64 <<< k).toNat = 2 ^ k := by
    rw [BitVec.toNat_shiftLeft, BitVec.toNat_ofNat, Nat.shiftLeft_eq]
    simp
    exact h1
  rw [h3]; omega
/-- a word's bit, as Has reads it -/
theorem has_eq (w : BitVec 64) {k : Nat} (hk : k < 64) : decide (IntKind.u64.wrap (BitVec.ofInt IntKind.u64.bits ((w.toNat : Int).fdiv (2 ^ (min ((k : Nat) : Int).toNat IntKind.u64.bits))) &&& BitVec.ofInt IntKind.u64.bits 1).toNat = 1) = w.getLsbD k := by
  have e : min ((k : Nat) : Int).toNat IntKind.u64.bits = k := by simp [IntKind.bits]; omega
  rw [e]
  have h2 : ((2 : Int) ^ k) = ((2 ^ k : Nat) : Int) := by simp
  have h3 : (w.toNat : Int).fdiv (2 ^ k) = ((w >>> k).toNat : Int) := by
    rw [h2, Int.fdiv_eq_ediv_of_nonneg _ (Int.natCast_nonneg _), BitVec.toNat_ushiftRight, Nat.shiftRight_eq_div_pow]; rfl
  have h4 : BitVec.ofInt IntKind.u64.bits 1 = 1#64 := rfl
  rw [h3, of64, h4]
  have h6 : IntKind.u64.wrap ((w >>> k &&& 1#64).toNat : Int) = ((w >>> k &&& 1#64).toNat : Int) := wrap64 _
  refine (congrArg (fun z => decide (z = 1)) h6).trans ?_
  have h5 : (w >>> k &&& 1#64).toNat = if w.getLsbD k then 1 else 0 := by
    have := BitVec.and_one_eq_setWidth_ofBool_getLsbD (x := w >>> k)
    rw [this, BitVec.getLsbD_ushiftRight, Nat.add_zero]
    cases w.getLsbD k <;> rfl
  rw [h5]
  cases w.getLsbD k <;> simp
end Go.HL.Kl

/- Part of the proofs over this seat: see the text that holds the theorem. Conditions: each theorem bears its own. -/
namespace Go.HL.Kl
open Go Go.HL

theorem shr6_u8 {x : Nat} (hx : x < 256) : ((x : Int)).fdiv (2 ^ (min (6 : Int).toNat IntKind.u8.bits)) = ((x / 64 : Nat) : Int) := by
  have : ∀ x : Fin 256, ((x.val : Int)).fdiv (2 ^ (min (6 : Int).toNat IntKind.u8.bits)) = ((x.val / 64 : Nat) : Int) := by decide +kernel
  exact this ⟨x, hx⟩
theorem shr6_i64 {x : Nat} (hx : x < 256) : ((x : Int)).fdiv (2 ^ (min (6 : Int).toNat IntKind.i64.bits)) = ((x / 64 : Nat) : Int) := by
  have : ∀ x : Fin 256, ((x.val : Int)).fdiv (2 ^ (min (6 : Int).toNat IntKind.i64.bits)) = ((x.val / 64 : Nat) : Int) := by decide +kernel
  exact this ⟨x, hx⟩
theorem and63_i64 {x : Nat} (hx : x < 256) : IntKind.i64.wrap (BitVec.ofInt IntKind.i64.bits (x : Int) &&& BitVec.ofInt IntKind.i64.bits 63).toNat = ((x % 64 : Nat) : Int) := by
  have : ∀ x : Fin 256, IntKind.i64.wrap (BitVec.ofInt IntKind.i64.bits (x.val : Int) &&& BitVec.ofInt IntKind.i64.bits 63).toNat = ((x.val % 64 : Nat) : Int) := by decide +kernel
  exact this ⟨x, hx⟩
theorem quo64 {x : Nat} (hx : x < 256) : IntKind.u8.wrap ((x : Int).tdiv 64) = ((x / 64 : Nat) : Int) := by
  have : ∀ x : Fin 256, IntKind.u8.wrap ((x.val : Int).tdiv 64) = ((x.val / 64 : Nat) : Int) := by decide +kernel
  exact this ⟨x, hx⟩
theorem rem64 {x : Nat} (hx : x < 256) : (x : Int).tmod 64 = ((x % 64 : Nat) : Int) := by
  have : ∀ x : Fin 256, (x.val : Int).tmod 64 = ((x.val % 64 : Nat) : Int) := by decide +kernel
  exact this ⟨x, hx⟩
theorem conv8 {x : Nat} (hx : x < 256) : IntKind.u8.wrap (x : Int) = (x : Int) := by
  have : ∀ x : Fin 256, IntKind.u8.wrap (x.val : Int) = (x.val : Int) := by decide +kernel
  exact this ⟨x, hx⟩
theorem conv64 {x : Nat} (hx : x < 256) : IntKind.i64.wrap (x : Int) = (x : Int) := by
  have : ∀ x : Fin 256, IntKind.i64.wrap (x.val : Int) = (x.val : Int) := by decide +kernel
  exact this ⟨x, hx⟩
theorem wd_bit (c : Cl) {x : Nat} (_hx : x < 256) : (wd c (x / 64)).getLsbD (x % 64) = c.getLsbD x := by
  rw [wd_get _ _ (by omega)]
  congr 1; omega
theorem hasB (c : Cl) {x : Nat} (hx : x < 256) : decide (IntKind.u64.wrap (BitVec.ofInt IntKind.u64.bits (((wd c (x / 64)).toNat : Int).fdiv (2 ^ (min (((x % 64 : Nat) : Nat) : Int).toNat IntKind.u64.bits))) &&& BitVec.ofInt IntKind.u64.bits 1).toNat = 1) = c.getLsbD x := by
  rw [has_eq _ (by omega), wd_bit c hx]
theorem v_com (w : BitVec 64) : Value.int .u64 (IntKind.u64.wrap (BitVec.ofInt IntKind.u64.bits (if IntKind.u64.signed then -1 else IntKind.u64.max) ^^^ BitVec.ofInt IntKind.u64.bits (w.toNat : Int)).toNat) = Ew (~~~w) := by
  rw [of64]
  have e : BitVec.ofInt IntKind.u64.bits (if IntKind.u64.signed then -1 else IntKind.u64.max) = BitVec.allOnes 64 := rfl
  rw [e]
  have e2 : BitVec.allOnes 64 ^^^ w = ~~~w := BitVec.allOnes_xor
  have := wrap64 (BitVec.allOnes 64 ^^^ w)
  refine (congrArg (Value.int .u64) this).trans ?_
  rw [e2]; rfl
theorem Ec_zero : Ec 0#256 = [.int .u64 0, .int .u64 0, .int .u64 0, .int .u64 0] := by simp [Ec, Ew, wd]

theorem Ic_len (c : Cl) : (Ic c).length = 4 := rfl
section
variable {P : Program} {κ : Cx} {L : Loc} {H : Hp} {ty t t' : TypeId} {x y : Operand}
theorem s_eql_cl {e b : Nat} {k' : IntKind} [TU P t (.array 4 e)] [TU P e (.int k')] [TG P e true] [TI P e 1 b] [EG P t] {c d : Cl} (hx : ev L x = some (.agg (Ec c).toArray)) (hy : ev L y = some (.agg (Ec d).toArray)) : Step P κ (.binOp .eql t x y t') ty L H (.bool (decide (c = d))) :=
  step_cast (s_eql_arr (j := .u64) (xs := Ic c) (ys := Ic d) (by rw [← Ec_ints]; exact hx) (by rw [← Ec_ints]; exact hy) (Ic_len c) (Ic_len d)) (congrArg Value.bool (decide_eq_decide.2 Ic_inj))
theorem s_neq_cl {e b : Nat} {k' : IntKind} [TU P t (.array 4 e)] [TU P e (.int k')] [TG P e true] [TI P e 1 b] [EG P t] {c d : Cl} (hx : ev L x = some (.agg (Ec c).toArray)) (hy : ev L y = some (.agg (Ec d).toArray)) : Step P κ (.binOp .neq t x y t') ty L H (.bool (decide (c ≠ d))) :=
  step_cast (s_neq_arr (j := .u64) (xs := Ic c) (ys := Ic d) (by rw [← Ec_ints]; exact hx) (by rw [← Ec_ints]; exact hy) (Ic_len c) (Ic_len d)) (congrArg Value.bool (decide_eq_decide.2 (not_congr Ic_inj)))
end

/-! word by word -/
def mapW (f : Nat → BitVec 64 → BitVec 64) (c : Cl) : Nat → Cl
  | 0 => c
  | i + 1 => setw (mapW f c i) i (f i (wd (mapW f c i) i))
theorem wd_mapW (f : Nat → BitVec 64 → BitVec 64) (c : Cl) : ∀ (i : Nat), i ≤ 4 → ∀ k, k < 4 → wd (mapW f c i) k = if k < i then f k (wd c k) else wd c k
  | 0, _, k, _ => by simp [mapW]
  | i + 1, hi, k, hk => by
    unfold mapW
    rw [wd_setw _ _ (by omega) hk]
    have ih := fun k hk => wd_mapW f c i (by omega) k hk
    by_cases e : i = k
    · subst e
      rw [if_pos rfl, if_pos (by omega), ih i (by omega), if_neg (by omega)]
    · rw [if_neg e, ih k hk]
      by_cases h : k < i
      · rw [if_pos h, if_pos (by omega)]
      · rw [if_neg h, if_neg (by omega)]
theorem wd_or (a b : Cl) (k : Nat) : wd (a ||| b) k = wd a k ||| wd b k := by
  apply BitVec.eq_of_getLsbD_eq
  intro j hj
  rw [wd_get _ _ hj, BitVec.getLsbD_or, BitVec.getLsbD_or, wd_get _ _ hj, wd_get _ _ hj]
theorem wd_and (a b : Cl) (k : Nat) : wd (a &&& b) k = wd a k &&& wd b k := by
  apply BitVec.eq_of_getLsbD_eq
  intro j hj
  rw [wd_get _ _ hj, BitVec.getLsbD_and, BitVec.getLsbD_and, wd_get _ _ hj, wd_get _ _ hj]
theorem wd_not (a : Cl) {k : Nat} (hk : k < 4) : wd (~~~a) k = ~~~(wd a k) := by
  apply BitVec.eq_of_getLsbD_eq
  intro j hj
  rw [wd_get _ _ hj, BitVec.getLsbD_not, BitVec.getLsbD_not, wd_get _ _ hj]
  have : 64 * k + j < 256 := by omega
  simp [hj, this]
theorem mapW_or (a b : Cl) : mapW (fun i w => w ||| wd b i) a 4 = a ||| b := ext_wd fun i hi => by rw [wd_mapW _ _ 4 (by omega) i hi, if_pos hi, wd_or]
theorem mapW_and (a b : Cl) : mapW (fun i w => w &&& wd b i) a 4 = a &&& b := ext_wd fun i hi => by rw [wd_mapW _ _ 4 (by omega) i hi, if_pos hi, wd_and]
theorem mapW_not (a : Cl) : mapW (fun _ w => ~~~w) a 4 = ~~~a := ext_wd fun i hi => by rw [wd_mapW _ _ 4 (by omega) i hi, if_pos hi, wd_not a hi]

/-! byte by byte -/
theorem cl_ext {c d : Cl} (h : ∀ j, j < 256 → c.getLsbD j = d.getLsbD j) : c = d := BitVec.eq_of_getLsbD_eq fun j hj => h j hj
/-- so far: the bytes below i of which p says yes -/
def Part (p : Nat → Bool) (i : Nat) (c : Cl) : Prop := ∀ j, j < 256 → c.getLsbD j = (decide (j < i) && p j)
theorem Part.zero {p : Nat → Bool} : Part p 0 0#256 := fun j _ => by simp
theorem Part.yes {p : Nat → Bool} {i : Nat} {c : Cl} (h : Part p i c) (hp : p i = true) : Part p (i + 1) (c ||| bit i) := fun j hj => by
  rw [BitVec.getLsbD_or, bit_get hj, h j hj]
  by_cases e : j = i
  · subst e; simp [hp]
  · have : (j < i + 1) = (j < i) := by simp; omega
    simp [e, this]
theorem Part.no {p : Nat → Bool} {i : Nat} {c : Cl} (h : Part p i c) (hp : p i = false) : Part p (i + 1) c := fun j hj => by
  rw [h j hj]
  by_cases e : j = i
  · subst e; simp [hp]
  · have : (j < i + 1) = (j < i) := by simp; omega
    simp [this]
theorem Part.eq {p : Nat → Bool} {i : Nat} {c d : Cl} (h : Part p i c) (hi : 256 ≤ i) (hd : ∀ j, j < 256 → d.getLsbD j = p j) : c = d := cl_ext fun j hj => by
  rw [h j hj, hd j hj]
  have : j < i := by omega
  simp [this]
theorem Part.or {a b c : Cl} {i : Nat} (h : Part (fun j => a.getLsbD j || b.getLsbD j) i c) (hi : 256 ≤ i) : c = a ||| b := h.eq hi fun j _ => by rw [BitVec.getLsbD_or]
theorem Part.and {a b c : Cl} {i : Nat} (h : Part (fun j => a.getLsbD j && b.getLsbD j) i c) (hi : 256 ≤ i) : c = a &&& b := h.eq hi fun j _ => by rw [BitVec.getLsbD_and]
theorem Part.not {a c : Cl} {i : Nat} (h : Part (fun j => !a.getLsbD j) i c) (hi : 256 ≤ i) : c = ~~~a := h.eq hi fun j hj => by rw [BitVec.getLsbD_not]; simp [hj]
/-- from lo on, below x -/
def rngTo (lo : Nat) : Nat → Cl
  | 0 => 0
  | x + 1 => if lo ≤ x then rngTo lo x ||| bit x else 0
def rng (lo hi : Nat) : Cl := rngTo lo (hi + 1)
theorem rngTo_low {lo x : Nat} (h : x ≤ lo) : rngTo lo x = 0 := by
  cases x with
  | zero => rfl
  | succ x => simp [rngTo]; omega
theorem rngTo_step {lo x : Nat} (h : lo ≤ x) : rngTo lo (x + 1) = rngTo lo x ||| bit x := by simp [rngTo, h]
theorem rngTo_get (lo : Nat) : ∀ (x j : Nat), j < 256 → (rngTo lo x).getLsbD j = (decide (lo ≤ j) && decide (j < x))
  | 0, j, _ => by simp [rngTo]
  | x + 1, j, hj => by
    unfold rngTo
    split
    · rename_i h
      rw [BitVec.getLsbD_or, bit_get hj, rngTo_get lo x j hj]
      by_cases e : j = x
      · subst e; simp [h]
      · have : (j < x + 1) = (j < x) := by simp; omega
        simp [e, this]
    · rename_i h
      have : ¬ (lo ≤ j ∧ j < x + 1) := by omega
      simp; omega
theorem rng_get {lo hi j : Nat} (hj : j < 256) : (rng lo hi).getLsbD j = (decide (lo ≤ j) && decide (j ≤ hi)) := by
  rw [rng, rngTo_get _ _ _ hj]
  have : (j < hi + 1) = (j ≤ hi) := by simp; omega
  simp only [this]
theorem rng_end {lo hi x : Nat} (h1 : lo ≤ x) (h2 : hi < x) (h3 : x ≤ max lo (hi + 1)) : rngTo lo x = rng lo hi := by
  apply cl_ext
  intro j hj
  rw [rngTo_get _ _ _ hj, rng_get hj]
  by_cases h : lo ≤ j
  · have : (j < x) = (j ≤ hi) := by simp; omega
    simp [h, this]
  · simp [h]
def ofL (l : List UInt8) : Cl := l.foldl (fun c b => c ||| bit b.toNat) 0
theorem ofL_step {l : List UInt8} {i : Nat} (h : i < l.length) : ofL (l.take (i + 1)) = ofL (l.take i) ||| bit l[i].toNat := by
  unfold ofL
  rw [List.take_add_one, List.getElem?_eq_getElem h, Option.toList_some, List.foldl_append]
  rfl
theorem ofL_all {l : List UInt8} {i : Nat} (h : l.length ≤ i) : ofL (l.take i) = ofL l := by rw [List.take_of_length_le h]
def sizeTo (c : Cl) (i : Nat) : Nat := (List.range i).countP c.getLsbD
def size (c : Cl) : Nat := sizeTo c 256
theorem sizeTo_step (c : Cl) (i : Nat) : sizeTo c (i + 1) = sizeTo c i + if c.getLsbD i then 1 else 0 := by
  unfold sizeTo
  rw [List.range_succ, List.countP_append]
  simp [List.countP_cons]
theorem sizeTo_le (c : Cl) (i : Nat) : sizeTo c i ≤ i := by
  have := List.countP_le_length (p := c.getLsbD) (l := List.range i)
  simpa [sizeTo] using this
def memsTo (c : Cl) (i : Nat) : List Nat := (List.range i).filter c.getLsbD
def mems (c : Cl) : List Nat := memsTo c 256
theorem memsTo_yes {c : Cl} {i : Nat} (h : c.getLsbD i = true) : memsTo c (i + 1) = memsTo c i ++ [i] := by
  unfold memsTo; rw [List.range_succ, List.filter_append]; simp [h]
theorem memsTo_no {c : Cl} {i : Nat} (h : c.getLsbD i = false) : memsTo c (i + 1) = memsTo c i := by
  unfold memsTo; rw [List.range_succ, List.filter_append]; simp [h]
theorem memsTo_lt {c : Cl} {i b : Nat} (h : b ∈ memsTo c i) : b < i ∧ c.getLsbD b = true := by
  simpa [memsTo] using h
theorem memsTo_len (c : Cl) (i : Nat) : (memsTo c i).length ≤ i := by
  have := List.length_filter_le c.getLsbD (List.range i)
  simpa [memsTo] using this
/-- a byte, encoded by its number -/
def Eby (b : Nat) : List Value := [.int .u8 b]
instance : Enc Eby 1 := ⟨fun _ => rfl, fun _ _ h => by simp [Eby] at h; subst h; rfl⟩
end Go.HL.Kl
