/-
  The contracts for DumpEquals, printed by a program. No condition; What is compared when two states are compared: lists as they read; the loop that compares two lists. No condition.
-/
import Derived.Test.YtbjomeonjlialaaGreatZbd
set_option linter.unusedVariables false
set_option linter.unusedSimpArgs false
namespace Go.Proofs.YtbjomeonjlialaaGreat.V.S
def c67 : Ctr := ⟨67, 2, [.xv [.s] (.at 0), .xv [.s] (.at 1)], [], [], .done 0 (.xb (.op (.fn 0) (.at 0) (.at 1))) []⟩
def c24 : Ctr := ⟨24, 2, [.xv [.i .u64] (.at 0), .xv [.i .u64] (.at 1)], [], [], .done 0 (.xb (.op (.fn 2) (.at 0) (.at 1))) []⟩
def c23 : Ctr := ⟨23, 2, [.xv [.s, .s] (.at 0), .xv [.s, .s] (.at 1)], [], [], .done 0 (.xb (.op (.fn 4) (.at 0) (.at 1))) []⟩
def c22 : Ctr := ⟨22, 2, [.xv [.s, .i .u64] (.at 0), .xv [.s, .i .u64] (.at 1)], [], [], .done 0 (.xb (.op (.fn 6) (.at 0) (.at 1))) []⟩
def c68 : Ctr := ⟨68, 2, [.xv [.i .u64, .i .u64] (.at 0), .xv [.i .u64, .i .u64] (.at 1)], [], [], .done 0 (.xb (.op (.fn 8) (.at 0) (.at 1))) []⟩
def c25 : Ctr := ⟨25, 2, [.xv [.s] (.at 0), .xv [.s] (.at 1)], [], [], .done 0 (.xb (.op (.fn 0) (.at 0) (.at 1))) []⟩
def c63 : Ctr := ⟨63, 2, [.xw (.at 0), .xw (.at 1)], [], [], .done 0 (.xb (.op (.sc .eql) (.op .p2 (.at 0) (.li 0)) (.op .p2 (.at 1) (.li 0)))) []⟩
def c19 : Ctr := ⟨19, 12, [.g [.xs (.at 0), .xw (.at 1), .xv [.s] (.at 2), .xi .u64 (.at 3), .xi .u64 (.at 4), .xi .u64 (.at 5)], .g [.xs (.at 6), .xw (.at 7), .xv [.s] (.at 8), .xi .u64 (.at 9), .xi .u64 (.at 10), .xi .u64 (.at 11)]], [], [], .done 0 (.xb (.op .an (.op (.sc .eql) (.at 0) (.at 6)) (.op .an (.op (.sc .eql) (.op .p2 (.at 1) (.li 0)) (.op .p2 (.at 7) (.li 0))) (.op .an (.op (.fn 0) (.at 2) (.at 8)) (.op .an (.op (.cm .eql) (.at 3) (.at 9)) (.op .an (.op (.cm .eql) (.at 4) (.at 10)) (.op (.cm .eql) (.at 5) (.at 11)))))))) []⟩
def c21 : Ctr := ⟨21, 6, [.g [.xs (.at 0), .xi .u64 (.at 1), .xv [.i .u64, .i .u64] (.at 2)], .g [.xs (.at 3), .xi .u64 (.at 4), .xv [.i .u64, .i .u64] (.at 5)]], [], [], .done 0 (.xb (.op .an (.op (.sc .eql) (.at 0) (.at 3)) (.op .an (.op (.cm .eql) (.at 1) (.at 4)) (.op (.fn 8) (.at 2) (.at 5))))) []⟩
def c18 : Ctr := ⟨18, 2, [.xv [.s, .w, .v [.s], .i .u64, .i .u64, .i .u64] (.at 0), .xv [.s, .w, .v [.s], .i .u64, .i .u64, .i .u64] (.at 1), .f 19 []], [], [], .done 0 (.xb (.op (.fn 12) (.at 0) (.at 1))) []⟩
def c20 : Ctr := ⟨20, 2, [.xv [.s, .i .u64, .v [.i .u64, .i .u64]] (.at 0), .xv [.s, .i .u64, .v [.i .u64, .i .u64]] (.at 1), .f 21 []], [], [], .done 0 (.xb (.op (.fn 10) (.at 0) (.at 1))) []⟩
def c9 : Ctr := ⟨9, 32, [.g [.xi .i64 (.at 0), .xi .i64 (.at 1), .xi .i64 (.at 2), .xi .i64 (.at 3), .xi .i64 (.at 4), .xi .u64 (.at 5), .xi .u64 (.at 6), .xi .u64 (.at 7), .xi .u64 (.at 8), .xi .u64 (.at 9), .xi .u64 (.at 10), .xv [.s, .w, .v [.s], .i .u64, .i .u64, .i .u64] (.at 11), .xv [.s, .i .u64, .v [.i .u64, .i .u64]] (.at 12), .xv [.s, .i .u64] (.at 13), .xv [.s, .s] (.at 14), .xv [.i .u64] (.at 15)], .g [.xi .i64 (.at 16), .xi .i64 (.at 17), .xi .i64 (.at 18), .xi .i64 (.at 19), .xi .i64 (.at 20), .xi .u64 (.at 21), .xi .u64 (.at 22), .xi .u64 (.at 23), .xi .u64 (.at 24), .xi .u64 (.at 25), .xi .u64 (.at 26), .xv [.s, .w, .v [.s], .i .u64, .i .u64, .i .u64] (.at 27), .xv [.s, .i .u64, .v [.i .u64, .i .u64]] (.at 28), .xv [.s, .i .u64] (.at 29), .xv [.s, .s] (.at 30), .xv [.i .u64] (.at 31)]], [], [], .done 0 (.xb (.op .an (.op (.cm .eql) (.at 0) (.at 16)) (.op .an (.op (.cm .eql) (.at 1) (.at 17)) (.op .an (.op (.cm .eql) (.at 2) (.at 18)) (.op .an (.op (.cm .eql) (.at 3) (.at 19)) (.op .an (.op (.cm .eql) (.at 4) (.at 20)) (.op .an (.op (.cm .eql) (.at 5) (.at 21)) (.op .an (.op (.cm .eql) (.at 6) (.at 22)) (.op .an (.op (.cm .eql) (.at 7) (.at 23)) (.op .an (.op (.cm .eql) (.at 8) (.at 24)) (.op .an (.op (.cm .eql) (.at 9) (.at 25)) (.op .an (.op (.cm .eql) (.at 10) (.at 26)) (.op .an (.op (.fn 12) (.at 11) (.at 27)) (.op .an (.op (.fn 10) (.at 12) (.at 28)) (.op .an (.op (.fn 6) (.at 13) (.at 29)) (.op .an (.op (.fn 4) (.at 14) (.at 30)) (.op (.fn 2) (.at 15) (.at 31)))))))))))))))))) []⟩
def c10 : Ctr := ⟨10, 32, [.g [.xi .i64 (.at 0), .xi .i64 (.at 1), .xi .i64 (.at 2), .xi .i64 (.at 3), .xi .i64 (.at 4), .xi .u64 (.at 5), .xi .u64 (.at 6), .xi .u64 (.at 7), .xi .u64 (.at 8), .xi .u64 (.at 9), .xi .u64 (.at 10), .xv [.s, .w, .v [.s], .i .u64, .i .u64, .i .u64] (.at 11), .xv [.s, .i .u64, .v [.i .u64, .i .u64]] (.at 12), .xv [.s, .i .u64] (.at 13), .xv [.s, .s] (.at 14), .xv [.i .u64] (.at 15)], .g [.xi .i64 (.at 16), .xi .i64 (.at 17), .xi .i64 (.at 18), .xi .i64 (.at 19), .xi .i64 (.at 20), .xi .u64 (.at 21), .xi .u64 (.at 22), .xi .u64 (.at 23), .xi .u64 (.at 24), .xi .u64 (.at 25), .xi .u64 (.at 26), .xv [.s, .w, .v [.s], .i .u64, .i .u64, .i .u64] (.at 27), .xv [.s, .i .u64, .v [.i .u64, .i .u64]] (.at 28), .xv [.s, .i .u64] (.at 29), .xv [.s, .s] (.at 30), .xv [.i .u64] (.at 31)]], [], [], .done 0 (.xb (.op .an (.op (.cm .eql) (.at 0) (.at 16)) (.op .an (.op (.cm .eql) (.at 1) (.at 17)) (.op .an (.op (.cm .eql) (.at 2) (.at 18)) (.op .an (.op (.cm .eql) (.at 3) (.at 19)) (.op .an (.op (.cm .eql) (.at 4) (.at 20)) (.op .an (.op (.cm .eql) (.at 5) (.at 21)) (.op .an (.op (.cm .eql) (.at 6) (.at 22)) (.op .an (.op (.cm .eql) (.at 7) (.at 23)) (.op .an (.op (.cm .eql) (.at 8) (.at 24)) (.op .an (.op (.cm .eql) (.at 9) (.at 25)) (.op .an (.op (.cm .eql) (.at 10) (.at 26)) (.op .an (.op (.fn 12) (.at 11) (.at 27)) (.op .an (.op (.fn 10) (.at 12) (.at 28)) (.op .an (.op (.fn 6) (.at 13) (.at 29)) (.op .an (.op (.fn 4) (.at 14) (.at 30)) (.op (.fn 2) (.at 15) (.at 31)))))))))))))))))) []⟩
def c8 : Ctr := ⟨8, 16, [.g [.xi .i64 (.at 0), .xi .i64 (.at 1), .xi .i64 (.at 2), .xi .i64 (.at 3), .xi .i64 (.at 4), .xi .u64 (.at 5), .xi .u64 (.at 6), .xi .u64 (.at 7), .xi .u64 (.at 8), .xi .u64 (.at 9), .xi .u64 (.at 10), .xv [.s, .w, .v [.s], .i .u64, .i .u64, .i .u64] (.at 11), .xv [.s, .i .u64, .v [.i .u64, .i .u64]] (.at 12), .xv [.s, .i .u64] (.at 13), .xv [.s, .s] (.at 14), .xv [.i .u64] (.at 15)]], [], [], .done 1 (.xb (.at 16)) []⟩
def c6 : Ctr := ⟨6, 0, [], [], [], .done 0 (.b true) []⟩
def c4 : Ctr := ⟨4, 32, [.g [.xi .i64 (.at 0), .xi .i64 (.at 1), .xi .i64 (.at 2), .xi .i64 (.at 3), .xi .i64 (.at 4), .xi .u64 (.at 5), .xi .u64 (.at 6), .xi .u64 (.at 7), .xi .u64 (.at 8), .xi .u64 (.at 9), .xi .u64 (.at 10), .xv [.s, .w, .v [.s], .i .u64, .i .u64, .i .u64] (.at 11), .xv [.s, .i .u64, .v [.i .u64, .i .u64]] (.at 12), .xv [.s, .i .u64] (.at 13), .xv [.s, .s] (.at 14), .xv [.i .u64] (.at 15)], .g [.xi .i64 (.at 16), .xi .i64 (.at 17), .xi .i64 (.at 18), .xi .i64 (.at 19), .xi .i64 (.at 20), .xi .u64 (.at 21), .xi .u64 (.at 22), .xi .u64 (.at 23), .xi .u64 (.at 24), .xi .u64 (.at 25), .xi .u64 (.at 26), .xv [.s, .w, .v [.s], .i .u64, .i .u64, .i .u64] (.at 27), .xv [.s, .i .u64, .v [.i .u64, .i .u64]] (.at 28), .xv [.s, .i .u64] (.at 29), .xv [.s, .s] (.at 30), .xv [.i .u64] (.at 31)]], [], [], .done 0 (.xb (.lb true)) []⟩
def ann (f id : Nat) : Option LAnn := match f, id with
  | 67, 0 => some ⟨1, 3, [(13, .xi .i64 (.at 0))], [], [(.s 0, .xv [.s] (.at 1)), (.s 1, .xv [.s] (.at 2))], [.op (.cm .leq) (.li 0) (.at 0), .op (.cm .leq) (.at 0) (.op .len (.op .p2 (.at 1) (.li 0)) (.li 0)), .op (.fn 1) (.op .pr (.at 1) (.at 2)) (.at 0)], .op (.ar .sub .i64) (.op .len (.op .p2 (.at 1) (.li 0)) (.li 0)) (.at 0)⟩
  | 24, 0 => some ⟨1, 3, [(13, .xi .i64 (.at 0))], [], [(.s 0, .xv [.i .u64] (.at 1)), (.s 1, .xv [.i .u64] (.at 2))], [.op (.cm .leq) (.li 0) (.at 0), .op (.cm .leq) (.at 0) (.op .len (.op .p2 (.at 1) (.li 0)) (.li 0)), .op (.fn 3) (.op .pr (.at 1) (.at 2)) (.at 0)], .op (.ar .sub .i64) (.op .len (.op .p2 (.at 1) (.li 0)) (.li 0)) (.at 0)⟩
  | 23, 0 => some ⟨1, 3, [(13, .xi .i64 (.at 0))], [], [(.s 0, .xv [.s, .s] (.at 1)), (.s 1, .xv [.s, .s] (.at 2))], [.op (.cm .leq) (.li 0) (.at 0), .op (.cm .leq) (.at 0) (.op .len (.op .p2 (.at 1) (.li 0)) (.li 0)), .op (.fn 5) (.op .pr (.at 1) (.at 2)) (.at 0)], .op (.ar .sub .i64) (.op .len (.op .p2 (.at 1) (.li 0)) (.li 0)) (.at 0)⟩
  | 22, 0 => some ⟨1, 3, [(13, .xi .i64 (.at 0))], [], [(.s 0, .xv [.s, .i .u64] (.at 1)), (.s 1, .xv [.s, .i .u64] (.at 2))], [.op (.cm .leq) (.li 0) (.at 0), .op (.cm .leq) (.at 0) (.op .len (.op .p2 (.at 1) (.li 0)) (.li 0)), .op (.fn 7) (.op .pr (.at 1) (.at 2)) (.at 0)], .op (.ar .sub .i64) (.op .len (.op .p2 (.at 1) (.li 0)) (.li 0)) (.at 0)⟩
  | 68, 0 => some ⟨1, 3, [(13, .xi .i64 (.at 0))], [], [(.s 0, .xv [.i .u64, .i .u64] (.at 1)), (.s 1, .xv [.i .u64, .i .u64] (.at 2))], [.op (.cm .leq) (.li 0) (.at 0), .op (.cm .leq) (.at 0) (.op .len (.op .p2 (.at 1) (.li 0)) (.li 0)), .op (.fn 9) (.op .pr (.at 1) (.at 2)) (.at 0)], .op (.ar .sub .i64) (.op .len (.op .p2 (.at 1) (.li 0)) (.li 0)) (.at 0)⟩
  | 25, 0 => some ⟨1, 3, [(5, .xi .i64 (.at 0))], [], [(.s 0, .xv [.s] (.at 1)), (.s 1, .xv [.s] (.at 2))], [.op (.cm .leq) (.li 0) (.at 0), .op (.cm .leq) (.at 0) (.op .len (.op .p2 (.at 1) (.li 0)) (.li 0)), .op (.fn 1) (.op .pr (.at 1) (.at 2)) (.at 0)], .op (.ar .sub .i64) (.op .len (.op .p2 (.at 1) (.li 0)) (.li 0)) (.at 0)⟩
  | 18, 0 => some ⟨1, 3, [(17, .xi .i64 (.at 0))], [], [(.s 0, .xv [.s, .w, .v [.s], .i .u64, .i .u64, .i .u64] (.at 1)), (.s 1, .xv [.s, .w, .v [.s], .i .u64, .i .u64, .i .u64] (.at 2))], [.op (.cm .leq) (.li 0) (.at 0), .op (.cm .leq) (.at 0) (.op .len (.op .p2 (.at 1) (.li 0)) (.li 0)), .op (.fn 13) (.op .pr (.at 1) (.at 2)) (.at 0)], .op (.ar .sub .i64) (.op .len (.op .p2 (.at 1) (.li 0)) (.li 0)) (.at 0)⟩
  | 20, 0 => some ⟨1, 3, [(17, .xi .i64 (.at 0))], [], [(.s 0, .xv [.s, .i .u64, .v [.i .u64, .i .u64]] (.at 1)), (.s 1, .xv [.s, .i .u64, .v [.i .u64, .i .u64]] (.at 2))], [.op (.cm .leq) (.li 0) (.at 0), .op (.cm .leq) (.at 0) (.op .len (.op .p2 (.at 1) (.li 0)) (.li 0)), .op (.fn 11) (.op .pr (.at 1) (.at 2)) (.at 0)], .op (.ar .sub .i64) (.op .len (.op .p2 (.at 1) (.li 0)) (.li 0)) (.at 0)⟩
  | 10, 0 => some ⟨1, 3, [(5, .xi .i64 (.at 0))], [], [(.c (.s 2) 11, .xv [.s, .w, .v [.s], .i .u64, .i .u64, .i .u64] (.at 1)), (.c (.s 3) 11, .xv [.s, .w, .v [.s], .i .u64, .i .u64, .i .u64] (.at 2))], [.op (.cm .leq) (.li 0) (.at 0), .op (.cm .leq) (.at 0) (.op .len (.op .p2 (.at 1) (.li 0)) (.li 0)), .op (.fn 13) (.op .pr (.at 1) (.at 2)) (.at 0)], .op (.ar .sub .i64) (.op .len (.op .p2 (.at 1) (.li 0)) (.li 0)) (.at 0)⟩
  | 10, 2 => some ⟨1, 3, [(8, .xi .i64 (.at 0))], [], [(.c (.s 2) 12, .xv [.s, .i .u64, .v [.i .u64, .i .u64]] (.at 1)), (.c (.s 3) 12, .xv [.s, .i .u64, .v [.i .u64, .i .u64]] (.at 2))], [.op (.cm .leq) (.li 0) (.at 0), .op (.cm .leq) (.at 0) (.op .len (.op .p2 (.at 1) (.li 0)) (.li 0)), .op (.fn 11) (.op .pr (.at 1) (.at 2)) (.at 0)], .op (.ar .sub .i64) (.op .len (.op .p2 (.at 1) (.li 0)) (.li 0)) (.at 0)⟩
  | 10, 4 => some ⟨1, 3, [(11, .xi .i64 (.at 0))], [], [(.c (.s 9) 2, .xv [.i .u64, .i .u64] (.at 1)), (.c (.s 10) 2, .xv [.i .u64, .i .u64] (.at 2))], [.op (.cm .leq) (.li 0) (.at 0), .op (.cm .leq) (.at 0) (.op .len (.op .p2 (.at 1) (.li 0)) (.li 0)), .op (.fn 9) (.op .pr (.at 1) (.at 2)) (.at 0)], .op (.ar .sub .i64) (.op .len (.op .p2 (.at 1) (.li 0)) (.li 0)) (.at 0)⟩
  | 10, 6 => some ⟨1, 3, [(12, .xi .i64 (.at 0))], [], [(.c (.s 2) 13, .xv [.s, .i .u64] (.at 1)), (.c (.s 3) 13, .xv [.s, .i .u64] (.at 2))], [.op (.cm .leq) (.li 0) (.at 0), .op (.cm .leq) (.at 0) (.op .len (.op .p2 (.at 1) (.li 0)) (.li 0)), .op (.fn 7) (.op .pr (.at 1) (.at 2)) (.at 0)], .op (.ar .sub .i64) (.op .len (.op .p2 (.at 1) (.li 0)) (.li 0)) (.at 0)⟩
  | 10, 8 => some ⟨1, 3, [(13, .xi .i64 (.at 0))], [], [(.c (.s 2) 14, .xv [.s, .s] (.at 1)), (.c (.s 3) 14, .xv [.s, .s] (.at 2))], [.op (.cm .leq) (.li 0) (.at 0), .op (.cm .leq) (.at 0) (.op .len (.op .p2 (.at 1) (.li 0)) (.li 0)), .op (.fn 5) (.op .pr (.at 1) (.at 2)) (.at 0)], .op (.ar .sub .i64) (.op .len (.op .p2 (.at 1) (.li 0)) (.li 0)) (.at 0)⟩
  | 10, 10 => some ⟨1, 3, [(14, .xi .i64 (.at 0))], [], [(.c (.s 2) 15, .xv [.i .u64] (.at 1)), (.c (.s 3) 15, .xv [.i .u64] (.at 2))], [.op (.cm .leq) (.li 0) (.at 0), .op (.cm .leq) (.at 0) (.op .len (.op .p2 (.at 1) (.li 0)) (.li 0)), .op (.fn 3) (.op .pr (.at 1) (.at 2)) (.at 0)], .op (.ar .sub .i64) (.op .len (.op .p2 (.at 1) (.li 0)) (.li 0)) (.at 0)⟩
  | 8, 0 => some ⟨1, 2, [(3, .xi .i64 (.at 0))], [], [(.c (.s 1) 11, .xv [.s, .w, .v [.s], .i .u64, .i .u64, .i .u64] (.at 1))], [.op (.cm .leq) (.li 0) (.at 0), .op (.cm .leq) (.at 0) (.op .len (.op .p2 (.at 1) (.li 0)) (.li 0))], .op (.ar .sub .i64) (.op .len (.op .p2 (.at 1) (.li 0)) (.li 0)) (.at 0)⟩
  | 8, 2 => some ⟨1, 2, [(5, .xi .i64 (.at 0))], [], [(.c (.s 4) 2, .xv [.s] (.at 1))], [.op (.cm .leq) (.li 0) (.at 0), .op (.cm .leq) (.at 0) (.op .len (.op .p2 (.at 1) (.li 0)) (.li 0))], .op (.ar .sub .i64) (.op .len (.op .p2 (.at 1) (.li 0)) (.li 0)) (.at 0)⟩
  | 8, 4 => some ⟨1, 2, [(6, .xi .i64 (.at 0))], [], [(.c (.s 1) 12, .xv [.s, .i .u64, .v [.i .u64, .i .u64]] (.at 1))], [.op (.cm .leq) (.li 0) (.at 0), .op (.cm .leq) (.at 0) (.op .len (.op .p2 (.at 1) (.li 0)) (.li 0))], .op (.ar .sub .i64) (.op .len (.op .p2 (.at 1) (.li 0)) (.li 0)) (.at 0)⟩
  | 8, 6 => some ⟨1, 2, [(7, .xi .i64 (.at 0))], [], [(.c (.s 1) 13, .xv [.s, .i .u64] (.at 1))], [.op (.cm .leq) (.li 0) (.at 0), .op (.cm .leq) (.at 0) (.op .len (.op .p2 (.at 1) (.li 0)) (.li 0))], .op (.ar .sub .i64) (.op .len (.op .p2 (.at 1) (.li 0)) (.li 0)) (.at 0)⟩
  | 8, 8 => some ⟨1, 2, [(8, .xi .i64 (.at 0))], [], [(.c (.s 1) 14, .xv [.s, .s] (.at 1))], [.op (.cm .leq) (.li 0) (.at 0), .op (.cm .leq) (.at 0) (.op .len (.op .p2 (.at 1) (.li 0)) (.li 0))], .op (.ar .sub .i64) (.op .len (.op .p2 (.at 1) (.li 0)) (.li 0)) (.at 0)⟩
  | _, _ => none
def x_c67 : CallX := noExt
def x_c24 : CallX := noExt
def x_c23 : CallX := noExt
def x_c22 : CallX := noExt
def x_c68 : CallX := noExt
def x_c25 : CallX := noExt
def x_c63 : CallX := noExt
def x_c19 : CallX := (orExt c63.call (orExt c67.call noExt))
def x_c21 : CallX := (orExt c68.call noExt)
def x_c18 : CallX := (orExt c19.call noExt)
def x_c20 : CallX := (orExt c21.call noExt)
def x_c9 : CallX := (orExt c18.call (orExt c20.call (orExt c22.call (orExt c23.call (orExt c24.call noExt)))))
def x_c10 : CallX := (orExt c25.call noExt)
def x_c8 : CallX := noExt
def x_c4 : CallX := (orExt c8.call (orExt c9.call (orExt c10.call (orExt c6.call noExt))))
end Go.Proofs.YtbjomeonjlialaaGreat.V.S
namespace Go.Proofs.YtbjomeonjlialaaGreat.V.S
inductive W where
  | i (n : Int)
  | b (x : Bool)
  | s (l : List UInt8)
  | l (l : List W)
mutual
def viewK : SK → D Unit → W
  | .i _, d => .i d.int
  | .b, d => .b d.tr
  | .s, d => .s d.str
  | .w, d => .s d.snd.str
  | .v fs, d => .l (d.snd.lst.map fun x => .l (viewKs fs 0 (rowD fs x)))
def viewKs : List SK → Nat → List (D Unit) → List W
  | [], _, _ => []
  | k :: fs, i, ds => viewK k ((ds[i]?).getD (.i 0)) :: viewKs fs (i + 1) ds
end
def rowW (fs : List SK) (x : D Unit) : List W := viewKs fs 0 (rowD fs x)
def rowsW (fs : List SK) (d : D Unit) : List (List W) := d.snd.lst.map (rowW fs)
def lk : Nat → List SK
  | 0 => [.s]
  | 1 => [.i .u64]
  | 2 => [.s, .s]
  | 3 => [.s, .i .u64]
  | 4 => [.i .u64, .i .u64]
  | 5 => [.s, .i .u64, .v [.i .u64, .i .u64]]
  | 6 => [.s, .w, .v [.s], .i .u64, .i .u64, .i .u64]
  | _ => []
open Classical in
noncomputable def dumpFn (n : Nat) (a b : D Unit) : D Unit := match n % 2 with
  | 0 => .b (decide (rowsW (lk (n / 2)) a = rowsW (lk (n / 2)) b))
  | _ => .b (decide ((rowsW (lk (n / 2)) a.fst).take b.int.toNat = (rowsW (lk (n / 2)) a.snd).take b.int.toNat))
noncomputable instance : Spec Unit := ⟨dumpFn⟩
theorem fn_eq0 (k : Nat) (a b : D Unit) : (Spec.fn (2 * k) a b).tr = true ↔ rowsW (lk k) a = rowsW (lk k) b := by
  have h1 : 2 * k % 2 = 0 := by omega
  have h2 : 2 * k / 2 = k := by omega
  show (dumpFn (2 * k) a b).tr = true ↔ _
  unfold dumpFn
  rw [h1, h2]
  exact dec_true
theorem fn_eq1 (k : Nat) (a b c : D Unit) : (Spec.fn (2 * k + 1) (.p a b) c).tr = true ↔ (rowsW (lk k) a).take c.int.toNat = (rowsW (lk k) b).take c.int.toNat := by
  have h1 : (2 * k + 1) % 2 = 1 := by omega
  have h2 : (2 * k + 1) / 2 = k := by omega
  show (dumpFn (2 * k + 1) _ c).tr = true ↔ _
  unfold dumpFn
  rw [h1, h2]
  exact dec_true
theorem bool_ne {b : Bool} {p : Prop} (h : b = true ↔ p) (k : ¬ p) : b = false := by
  cases b with
  | false => rfl
  | true => exact absurd (h.1 rfl) k
theorem ne_bool {b : Bool} {p : Prop} (h : b = true ↔ p) (k : b = false) : ¬ p := fun hp => by
  rw [h.2 hp] at k
  cases k
theorem rows_view {fs : List SK} {a b : D Unit} : viewK (.v fs) a = viewK (.v fs) b ↔ rowsW fs a = rowsW fs b := by
  have inj : ∀ l m : List (List W), l.map W.l = m.map W.l ↔ l = m := fun l m => by
    constructor
    · intro h
      have := congrArg (List.map fun x => match x with | W.l y => y | _ => []) h
      simpa [List.map_map, Function.comp_def] using this
    · intro h; rw [h]
  unfold viewK
  rw [W.l.injEq, ← inj]
  unfold rowsW rowW
  rw [List.map_map, List.map_map]
  rfl
theorem rows_len {fs : List SK} {a b : D Unit} (h : a.snd.lst.length ≠ b.snd.lst.length) : rowsW fs a ≠ rowsW fs b := fun e => h (by simpa [rowsW] using congrArg List.length e)
theorem rows_get {fs : List SK} {a : D Unit} {i : Nat} (h : i < a.snd.lst.length) : (rowsW fs a)[i]? = some (rowW fs ((a.snd.lst[i]?).getD (.i 0))) := by
  simp [rowsW, List.getElem?_eq_getElem h]
theorem rows_ne {fs : List SK} {a b : D Unit} {i : Nat} (ha : i < a.snd.lst.length) (hb : i < b.snd.lst.length) (h : rowW fs ((a.snd.lst[i]?).getD (.i 0)) ≠ rowW fs ((b.snd.lst[i]?).getD (.i 0))) : rowsW fs a ≠ rowsW fs b := fun e => h (by
  have := congrArg (fun l => l[i]?) e
  simp only [rows_get ha, rows_get hb, Option.some.injEq] at this
  exact this)
theorem rows_step {fs : List SK} {a b : D Unit} {i : Nat} (ha : i < a.snd.lst.length) (hb : i < b.snd.lst.length) (h : rowW fs ((a.snd.lst[i]?).getD (.i 0)) = rowW fs ((b.snd.lst[i]?).getD (.i 0))) (ht : (rowsW fs a).take i = (rowsW fs b).take i) : (rowsW fs a).take (i + 1) = (rowsW fs b).take (i + 1) := by
  rw [List.take_add_one, List.take_add_one, ht, rows_get ha, rows_get hb, h]
theorem rows_all {fs : List SK} {a b : D Unit} {i : Nat} (hl : a.snd.lst.length = b.snd.lst.length) (hi : a.snd.lst.length ≤ i) (ht : (rowsW fs a).take i = (rowsW fs b).take i) : rowsW fs a = rowsW fs b := by
  rw [List.take_of_length_le (by simpa [rowsW] using hi), List.take_of_length_le (by simp [rowsW]; omega)] at ht
  exact ht
theorem int_lt {n : Nat} (h : n ≤ maxLen) : (n : Int) ≤ 9223372036854775807 := by
  have : maxLen = 9223372036854775807 := by decide
  omega
def eqLoopVt (k : Nat) (el : SE) : Out (List Eqn) :=
  let la : SE := .op .len (.op .p2 (.at 0) (.li 0)) (.li 0)
  let lb : SE := .op .len (.op .p2 (.at 1) (.li 0)) (.li 0)
  let i1 : SE := .op (.ar .add .i64) (.at 2) (.li 1)
  let ab : SE := .op .pr (.at 0) (.at 1)
  .fork (.op (.cm .neq) la lb) (.leaf [⟨1, .op (.fn (2 * k)) (.at 0) (.at 1), .lb false⟩])
    (.need (.op (.cm .leq) (.li 0) (.li 0)) (.need (.op (.cm .leq) (.li 0) la) (.need (.op (.fn (2 * k + 1)) ab (.li 0)) (.any 2
      (.fork (.op (.cm .leq) (.li 0) (.at 2)) (.fork (.op (.cm .leq) (.at 2) la) (.fork (.op (.fn (2 * k + 1)) ab (.at 2))
        (.fork (.op (.cm .lss) (.at 2) la)
          (.need (.op (.cm .lss) (.at 2) lb) (.fork el (.leaf [⟨1, .op (.fn (2 * k)) (.at 0) (.at 1), .lb false⟩])
            (.need (.op (.cm .lss) (.op (.ar .sub .i64) la i1) (.op (.ar .sub .i64) la (.at 2))) (.need (.op (.cm .leq) (.li 0) (.op (.ar .sub .i64) la i1)) (.need (.op (.cm .leq) (.li 0) i1) (.need (.op (.cm .leq) i1 la) (.need (.op (.fn (2 * k + 1)) ab i1) .done)))))))
          (.leaf [⟨1, .op (.fn (2 * k)) (.at 0) (.at 1), .lb true⟩]))
        .done) .done) .done)))))
theorem eqLoop_vc (k : Nat) (el : SE) (g : Nat → D Unit) (hb : BndK (.v (lk k)) (g 0))
    (hel : ∀ d : D Unit, ((denT (setG g 2 d) el).tr = true ↔ rowW (lk k) (((g 0).snd.lst[d.int.toNat]?).getD (.i 0)) ≠ rowW (lk k) (((g 1).snd.lst[d.int.toNat]?).getD (.i 0)))) : vcT g (eqLoopVt k el) := by
  unfold BndK at hb
  have hl0 := int_lt hb.1
  simp only [eqLoopVt, vcT, eqT, hel, denT, setG, t_lss, f_lss, t_leq, f_leq, t_neq, f_neq, proj1, i_add, i_sub, i_len, r_p2, r_pr, r_fn, D.int_i, D.tr_b, show ¬ (0 = 2) by decide, show ¬ (1 = 2) by decide, if_true, if_false, and_true, implies_true]
  have E0 := fn_eq0 k
  have E1 := fn_eq1 k
  refine ⟨fun hne => bool_ne (E0 _ _) (rows_len (by omega)), fun hlen => ⟨by omega, by omega, (E1 _ _ _).2 rfl, fun d p1 p2 p3 => ⟨fun p4 => ⟨by omega, fun hd => ?_, fun he => ?_⟩, fun p4 => ?_⟩⟩⟩
  · exact bool_ne (E0 _ _) (rows_ne (i := d.int.toNat) (by omega) (by omega) hd)
  · have he := Classical.not_not.1 (ne_bool (hel d) he)
    rw [wrap64 (n := d.int + 1) (by omega) (by omega), wrap64 (by omega) (by omega), wrap64 (by omega) (by omega)]
    refine ⟨by omega, by omega, by omega, by omega, (E1 _ _ _).2 ?_⟩
    show List.take ((SOp.ar .add .i64).run d (.i 1)).int.toNat _ = List.take ((SOp.ar .add .i64).run d (.i 1)).int.toNat _
    rw [i_add, D.int_i, wrap64 (by omega) (by omega), show (d.int + 1).toNat = d.int.toNat + 1 by omega]
    exact rows_step (by omega) (by omega) he ((E1 _ _ _).1 p3)
  · exact (E0 _ _).2 (rows_all (i := d.int.toNat) (by omega) (by omega) ((E1 _ _ _).1 p3))
end Go.Proofs.YtbjomeonjlialaaGreat.V.S
