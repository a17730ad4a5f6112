/-
  The plans of the regions that draw their order, printed by a program; they go with every order. No condition.
-/
import Derived.Test.YtfoabgljfikklaaGreatDoorWaq
import Derived.Test.YtfoabgljfikklaaGreatDoorWae
import Derived.Test.YtfoabgljfikklaaGreatDoorWba
set_option linter.unusedVariables false
set_option linter.unusedSimpArgs false
namespace Go.Proofs.YtfoabgljfikklaaGreatDoor.V
def pl12 : List (Nat × Plan) := [(9, (.pure 0 (.pure 1 (.pure 2 (.pure 4 (.read 3 (.read 5 (.eff 6 (.pure 7 (.pure 8 (.eff 9 (.pure 10 .done))))))))))))]
def pl42 : List (Nat × Plan) := [(6, (.pure 0 (.pure 2 (.pure 3 (.pure 5 (.read 1 (.read 4 (.read 6 (.alt (.eff 7 (.pure 8 (.eff 9 (.eff 10 .done)))) (.eff 9 (.eff 7 (.pure 8 (.eff 10 .done))))))))))))),
  (9, (.pure 0 (.pure 1 (.pure 2 (.pure 4 (.pure 5 (.pure 6 (.read 3 (.read 7 (.eff 8 .done)))))))))),
  (10, (.pure 0 (.pure 1 (.pure 2 (.pure 4 (.pure 5 (.pure 6 (.pure 10 (.read 3 (.read 7 (.eff 8 (.pure 9 .done))))))))))))]
def pl45 : List (Nat × Plan) := [(1, (.pure 0 (.pure 1 (.pure 2 (.pure 4 (.read 3 (.read 5 (.alt (.eff 6 (.pure 7 (.pure 8 (.pure 9 (.eff 10 (.eff 11 (.pure 12 .done))))))) (.eff 10 (.eff 6 (.pure 7 (.pure 8 (.pure 9 (.eff 11 (.pure 12 .done)))))))))))))))]
def pl50 : List (Nat × Plan) := [(5, (.pure 0 (.pure 1 (.pure 2 (.pure 3 (.pure 5 (.pure 6 (.pure 7 (.pure 8 (.read 4 (.read 9 (.pure 10 (.eff 11 (.eff 12 (.pure 13 .done)))))))))))))))]
def pl51 : List (Nat × Plan) := [(3, (.read 0 (.eff 1 (.eff 2 (.pure 3 (.eff 4 (.pure 5 .done)))))))]
def pl66 : List (Nat × Plan) := [(5, (.pure 0 (.pure 1 (.pure 2 (.pure 3 (.pure 5 (.read 4 (.read 7 (.eff 6 (.eff 8 (.pure 9 .done)))))))))))]
def pl70 : List (Nat × Plan) := [(1, (.pure 0 (.pure 1 (.pure 2 (.pure 4 (.read 3 (.read 5 (.eff 6 (.pure 7 (.pure 8 (.pure 9 (.pure 10 (.pure 11 .done)))))))))))))]
def pl96 : List (Nat × Plan) := [(6, (.pure 0 (.pure 1 (.pure 2 (.pure 4 (.pure 6 (.pure 8 (.pure 9 (.pure 10 (.pure 11 (.pure 13 (.pure 16 (.pure 17 (.pure 18 (.pure 20 (.pure 21 (.pure 22 (.read 3 (.read 5 (.read 7 (.read 12 (.read 14 (.read 19 (.read 23 (.eff 15 (.eff 24 (.pure 25 (.eff 26 (.pure 27 (.pure 28 (.pure 29 (.pure 30 (.pure 31 .done))))))))))))))))))))))))))))))))),
  (12, (.pure 0 (.pure 1 (.pure 2 (.pure 4 (.pure 5 (.pure 6 (.pure 8 (.read 3 (.read 7 (.eff 9 .done)))))))))))]
def pl97 : List (Nat × Plan) := [(8, (.pure 0 (.pure 1 (.pure 2 (.pure 3 (.pure 5 (.pure 6 (.pure 7 (.pure 8 (.pure 9 (.read 4 (.read 10 (.eff 11 (.eff 12 (.eff 13 (.pure 14 (.pure 15 (.eff 16 .done))))))))))))))))))]
def pl101 : List (Nat × Plan) := [(1, (.pure 0 (.pure 1 (.pure 2 (.pure 4 (.read 3 (.read 5 (.eff 6 (.pure 7 (.pure 8 (.pure 9 (.pure 10 (.pure 11 .done))))))))))))),
  (6, (.pure 0 (.pure 1 (.pure 2 (.pure 4 (.pure 5 (.pure 6 (.pure 7 (.read 3 (.read 8 (.eff 9 .done)))))))))))]
def pl102 : List (Nat × Plan) := [(1, (.pure 0 (.pure 1 (.pure 2 (.pure 4 (.pure 5 (.pure 6 (.read 3 (.read 7 (.eff 8 (.pure 9 (.pure 10 (.pure 11 (.pure 12 (.pure 13 .done))))))))))))))),
  (4, (.pure 0 (.pure 1 (.pure 2 (.pure 4 (.pure 6 (.read 3 (.read 5 (.eff 7 .done)))))))))]
def pl112 : List (Nat × Plan) := [(2, (.pure 0 (.pure 1 (.pure 2 (.pure 4 (.read 3 (.read 5 (.eff 6 .done)))))))),
  (5, (.pure 0 (.pure 1 (.pure 2 (.read 3 (.read 4 (.eff 5 (.eff 6 .done)))))))),
  (6, (.pure 0 (.pure 1 (.pure 2 (.pure 4 (.pure 5 (.pure 6 (.pure 8 (.read 3 (.read 7 (.pure 9 (.read 10 (.eff 11 .done)))))))))))))]
def pl120 : List (Nat × Plan) := [(1, (.pure 0 (.pure 1 (.pure 3 (.pure 4 (.pure 5 (.pure 6 (.read 2 (.read 7 (.pure 8 (.pure 9 (.pure 10 (.pure 11 (.eff 12 .done))))))))))))))]
def pl132 : List (Nat × Plan) := [(1, (.pure 0 (.pure 3 (.read 1 (.read 4 (.eff 2 (.pure 6 (.eff 5 (.eff 7 (.pure 8 (.eff 9 .done)))))))))))]
def q167_21_0 : Plan := (.eff 15 (.pure 16 (.pure 17 (.eff 18 (.pure 19 (.pure 20 (.eff 21 .done)))))))
def q167_21_1 : Plan := (.eff 14 q167_21_0)
def q167_21_2 : Plan := (.eff 12 q167_21_0)
def q167_21_3 : Plan := (.eff 8 q167_21_0)
def q167_21_4 : Plan := (.alt (.eff 8 q167_21_1) (.eff 14 q167_21_3))
def q167_21_5 : Plan := (.alt (.eff 8 q167_21_2) (.eff 12 q167_21_3))
def q167_21_6 : Plan := (.alt (.eff 8 (.alt (.eff 12 q167_21_1) (.eff 14 q167_21_2))) (.alt (.eff 12 q167_21_4) (.eff 14 q167_21_5)))
def q167_21_7 : Plan := (.eff 7 q167_21_3)
def q167_21_8 : Plan := (.alt (.eff 7 q167_21_4) (.eff 14 q167_21_7))
def q167_21_9 : Plan := (.alt (.eff 7 q167_21_5) (.eff 12 q167_21_7))
def q167_21_10 : Plan := (.eff 5 q167_21_3)
def q167_21_11 : Plan := (.alt (.eff 5 q167_21_4) (.eff 14 q167_21_10))
def q167_21_12 : Plan := (.alt (.eff 5 q167_21_5) (.eff 12 q167_21_10))
def q167_21_13 : Plan := (.alt (.eff 5 q167_21_7) (.eff 7 q167_21_10))
def q167_22_0 : Plan := (.pure 17 (.eff 18 .done))
def q167_22_1 : Plan := (.eff 16 q167_22_0)
def q167_22_2 : Plan := (.read 14 q167_22_0)
def q167_22_3 : Plan := (.alt (.eff 14 q167_22_1) (.eff 16 q167_22_2))
def q167_22_4 : Plan := (.eff 13 (.pure 15 q167_22_1))
def q167_22_5 : Plan := (.alt (.eff 11 q167_22_1) (.eff 16 (.read 11 q167_22_0)))
def pl167 : List (Nat × Plan) := [(20, (.pure 0 (.pure 1 (.pure 2 (.pure 5 (.read 3 (.pure 4 (.read 6 (.pure 7 .done))))))))),
  (21, (.pure 0 (.pure 1 (.pure 2 (.pure 3 (.pure 4 (.pure 6 (.pure 9 (.pure 10 (.pure 11 (.pure 13 (.alt (.eff 5 (.alt (.eff 7 q167_21_6) (.alt (.eff 12 q167_21_8) (.eff 14 q167_21_9)))) (.alt (.eff 7 (.alt (.eff 5 q167_21_6) (.alt (.eff 12 q167_21_11) (.eff 14 q167_21_12)))) (.alt (.eff 12 (.alt (.eff 5 q167_21_8) (.alt (.eff 7 q167_21_11) (.eff 14 q167_21_13)))) (.eff 14 (.alt (.eff 5 q167_21_9) (.alt (.eff 7 q167_21_12) (.eff 12 q167_21_13)))))))))))))))))),
  (22, (.pure 0 (.pure 1 (.pure 2 (.pure 4 (.pure 6 (.pure 7 (.pure 8 (.pure 10 (.read 3 (.read 5 (.read 9 (.read 12 (.alt (.eff 11 (.alt (.eff 13 (.pure 15 q167_22_3)) (.eff 14 q167_22_4))) (.alt (.eff 13 (.pure 15 (.alt (.eff 11 q167_22_3) (.alt (.eff 14 q167_22_5) (.eff 16 (.read 11 q167_22_2)))))) (.eff 14 (.alt (.eff 11 q167_22_4) (.eff 13 (.pure 15 q167_22_5))))))))))))))))))),
  (23, (.pure 0 (.pure 1 (.pure 2 (.pure 4 (.pure 6 (.read 3 (.read 5 (.read 7 (.eff 8 .done)))))))))),
  (24, (.pure 0 (.pure 1 (.pure 2 (.pure 4 (.read 3 (.read 5 (.eff 6 .done))))))))]
def pl169 : List (Nat × Plan) := [(23, (.pure 0 (.pure 1 (.pure 2 (.pure 4 (.pure 5 (.pure 6 (.pure 7 (.pure 9 (.pure 11 (.read 3 (.read 8 (.read 10 (.eff 12 (.eff 13 (.eff 14 .done))))))))))))))))]
def pl171 : List (Nat × Plan) := [(2, (.pure 0 (.pure 1 (.pure 2 (.pure 3 (.pure 4 (.pure 5 (.pure 7 (.pure 8 (.read 6 (.read 9 (.eff 10 (.pure 11 (.pure 12 .done)))))))))))))),
  (4, (.pure 0 (.pure 1 (.pure 2 (.pure 4 (.read 3 (.read 5 (.eff 6 (.pure 7 (.pure 8 (.pure 9 (.pure 10 (.pure 11 .done))))))))))))),
  (6, (.pure 1 (.pure 2 (.pure 3 (.pure 5 (.pure 6 (.read 0 (.read 4 (.read 7 (.eff 8 (.pure 9 (.pure 10 (.pure 11 (.pure 12 (.pure 13 .done)))))))))))))))]
def pl176 : List (Nat × Plan) := [(13, (.pure 0 (.pure 1 (.pure 2 (.pure 3 (.pure 4 (.pure 5 (.pure 7 (.pure 8 (.pure 12 (.pure 13 (.pure 14 (.read 6 (.pure 9 (.pure 10 (.read 11 (.read 15 (.pure 16 (.pure 17 .done))))))))))))))))))),
  (15, (.pure 0 (.pure 1 (.pure 2 (.pure 3 (.read 4 (.read 5 (.eff 6 (.eff 7 (.pure 8 (.pure 9 (.eff 10 .done))))))))))))]
def pl196 : List (Nat × Plan) := [(12, (.pure 0 (.pure 1 (.pure 2 (.pure 4 (.pure 5 (.pure 6 (.pure 7 (.pure 9 (.read 3 (.read 8 (.pure 10 (.read 11 (.pure 12 (.eff 13 .done)))))))))))))))]
def pl200 : List (Nat × Plan) := [(5, (.pure 0 (.pure 1 (.pure 2 (.pure 4 (.pure 6 (.read 3 (.read 5 (.read 7 (.pure 8 (.pure 9 (.pure 10 (.eff 11 .done))))))))))))),
  (6, (.pure 0 (.pure 1 (.pure 2 (.pure 3 (.pure 5 (.read 4 (.read 6 (.eff 7 (.eff 8 (.pure 9 (.pure 10 (.eff 11 .done)))))))))))))]
def pl207 : List (Nat × Plan) := [(1, (.pure 0 (.pure 1 (.pure 2 (.pure 3 (.pure 5 (.pure 6 (.read 4 (.read 7 (.eff 8 (.eff 9 (.pure 10 (.pure 11 (.eff 12 .done))))))))))))))]
def pl208 : List (Nat × Plan) := [(3, (.pure 0 (.pure 1 (.pure 2 (.read 3 (.read 4 (.eff 5 (.pure 6 (.pure 7 (.eff 8 .done))))))))))]
def pl210 : List (Nat × Plan) := [(2, (.pure 0 (.pure 1 (.pure 2 (.read 3 (.read 4 (.pure 5 (.pure 6 (.eff 7 .done)))))))))]
def pl211 : List (Nat × Plan) := [(1, (.pure 0 (.pure 1 (.pure 2 (.pure 3 (.pure 5 (.pure 6 (.read 4 (.read 7 (.eff 8 (.pure 9 (.pure 10 (.eff 11 .done)))))))))))))]
def pl214 : List (Nat × Plan) := [(6, (.pure 0 (.pure 1 (.pure 2 (.pure 4 (.pure 5 (.pure 6 (.read 3 (.read 7 (.pure 8 .done))))))))))]
def pl230 : List (Nat × Plan) := [(6, (.pure 1 (.pure 2 (.pure 3 (.read 0 (.read 4 (.eff 5 .done)))))))]
def pl244 : List (Nat × Plan) := [(3, (.pure 0 (.pure 1 (.pure 2 (.pure 3 (.pure 5 (.pure 6 (.pure 7 (.pure 8 (.read 4 (.pure 10 (.read 9 (.pure 11 .done)))))))))))))]
def pl248 : List (Nat × Plan) := [(7, (.pure 0 (.pure 1 (.pure 2 (.pure 4 (.pure 5 (.pure 6 (.pure 7 (.pure 9 (.read 3 (.read 8 (.pure 10 (.read 11 (.pure 12 (.pure 13 (.eff 14 .done)))))))))))))))),
  (9, (.pure 0 (.pure 1 (.pure 2 (.pure 5 (.pure 6 (.pure 7 (.read 3 (.pure 4 (.read 8 (.pure 9 (.pure 10 .done))))))))))))]
def pl249 : List (Nat × Plan) := [(9, (.pure 0 (.pure 1 (.pure 2 (.pure 6 (.pure 7 (.pure 8 (.read 3 (.pure 4 (.pure 5 (.read 9 (.pure 10 (.pure 11 (.pure 12 .done))))))))))))))]
def pl253 : List (Nat × Plan) := [(11, (.pure 0 (.pure 1 (.pure 2 (.pure 4 (.pure 5 (.pure 6 (.read 3 (.read 7 (.pure 8 .done)))))))))),
  (19, (.pure 0 (.pure 1 (.pure 2 (.pure 4 (.pure 5 (.pure 6 (.read 3 (.read 7 (.pure 8 (.pure 9 .done))))))))))),
  (23, (.pure 0 (.pure 1 (.pure 2 (.pure 4 (.pure 5 (.pure 6 (.pure 7 (.pure 9 (.read 3 (.read 8 (.pure 10 (.pure 11 (.eff 12 (.pure 13 (.eff 14 .done))))))))))))))))]
def pl270 : List (Nat × Plan) := [(3, (.pure 0 (.pure 1 (.pure 2 (.pure 4 (.pure 5 (.pure 6 (.read 3 (.pure 8 (.read 7 (.pure 9 .done)))))))))))]
def pl273 : List (Nat × Plan) := [(1, (.pure 0 (.pure 1 (.pure 2 (.pure 4 (.pure 6 (.pure 7 (.pure 8 (.read 3 (.read 9 (.pure 10 (.pure 11 (.eff 5 (.pure 12 (.pure 13 .done))))))))))))))),
  (2, (.pure 0 (.pure 1 (.pure 2 (.pure 4 (.read 3 (.pure 5 (.read 6 (.pure 7 (.pure 8 (.pure 9 (.pure 10 (.pure 11 (.pure 13 (.pure 14 (.pure 15 (.pure 17 (.pure 26 (.read 12 (.read 16 (.pure 18 (.read 19 (.pure 20 (.pure 21 (.read 22 (.pure 23 (.pure 24 (.read 25 (.pure 27 (.pure 28 .done))))))))))))))))))))))))))))))]
def pl280 : List (Nat × Plan) := [(1, (.pure 0 (.pure 1 (.pure 2 (.pure 4 (.pure 6 (.pure 7 (.pure 8 (.read 3 (.read 9 (.pure 10 (.eff 5 (.eff 11 (.pure 12 (.pure 13 (.pure 14 (.pure 15 (.pure 16 .done))))))))))))))))))]
def pl283 : List (Nat × Plan) := [(2, (.pure 0 (.pure 1 (.pure 2 (.pure 4 (.read 3 (.read 5 (.eff 6 .done)))))))),
  (5, (.pure 0 (.pure 1 (.pure 2 (.pure 4 (.read 3 (.read 5 (.eff 6 .done))))))))]
def pl297 : List (Nat × Plan) := [(1, (.pure 0 (.pure 1 (.pure 2 (.pure 4 (.pure 5 (.pure 6 (.pure 8 (.pure 10 (.pure 11 (.pure 12 (.read 3 (.read 7 (.read 13 (.pure 14 (.pure 15 (.eff 9 (.pure 16 (.pure 17 (.pure 18 .done))))))))))))))))))))]
def pl307 : List (Nat × Plan) := [(3, (.pure 1 (.pure 2 (.pure 3 (.pure 4 (.read 0 (.read 5 (.pure 6 (.eff 7 (.eff 8 (.eff 9 .done)))))))))))]
def pl319 : List (Nat × Plan) := [(3, (.pure 0 (.pure 1 (.pure 2 (.pure 3 (.pure 5 (.pure 6 (.pure 7 (.pure 8 (.read 4 (.pure 10 (.read 9 (.pure 11 .done)))))))))))))]
def pl327 : List (Nat × Plan) := [(3, (.pure 0 (.pure 1 (.pure 2 (.pure 4 (.pure 5 (.pure 6 (.pure 8 (.read 3 (.read 7 (.eff 9 (.pure 10 (.pure 11 .done)))))))))))))]
def pl336 : List (Nat × Plan) := [(1, (.pure 0 (.pure 2 (.pure 3 (.pure 4 (.pure 7 (.pure 8 (.pure 9 (.read 1 (.read 5 (.read 10 (.eff 6 (.eff 11 (.pure 12 .done))))))))))))))]
def pl376 : List (Nat × Plan) := [(7, (.pure 0 (.pure 1 (.pure 2 (.pure 3 (.pure 5 (.pure 6 (.pure 7 (.read 4 (.read 8 (.eff 9 (.pure 10 (.eff 11 (.pure 12 .done))))))))))))))]
def pl380 : List (Nat × Plan) := [(3, (.pure 0 (.pure 1 (.pure 2 (.pure 3 (.pure 5 (.pure 6 (.pure 7 (.read 4 (.read 8 (.eff 9 .done)))))))))))]
def pl390 : List (Nat × Plan) := [(6, (.pure 0 (.pure 1 (.pure 2 (.pure 3 (.pure 4 (.pure 5 (.pure 6 (.pure 7 (.pure 8 (.pure 10 (.read 9 (.pure 11 (.read 12 (.pure 13 (.pure 14 (.read 15 (.eff 16 (.pure 17 (.pure 18 .done))))))))))))))))))))]
def pl409 : List (Nat × Plan) := [(5, (.pure 0 (.pure 1 (.pure 2 (.pure 3 (.pure 4 (.pure 5 (.eff 6 (.pure 7 .done)))))))))]
def plTbl : Tr (List (Nat × Plan)) := (.n none (.n none (.n none (.n none (.n none (.n none (.n none .e (.n none (.n (some pl319) .e .e) .e)) .e) (.n none (.n none .e (.n (some pl207) .e .e)) .e)) (.n none (.n none (.n none .e (.n none (.n (some pl327) .e .e) .e)) (.n none (.n (some pl167) .e .e) .e)) .e)) (.n none (.n none .e (.n (some pl51) (.n none .e (.n (some pl211) .e .e)) (.n none (.n none (.n (some pl307) .e .e) .e) .e))) (.n none (.n none .e (.n none (.n (some pl171) .e .e) .e)) (.n none (.n none (.n none (.n (some pl283) .e .e) .e) .e) .e)))) (.n none (.n none (.n none (.n none .e (.n (some pl97) .e .e)) (.n none (.n none (.n none (.n (some pl273) .e .e) .e) .e) .e)) (.n none (.n none .e (.n none (.n (some pl169) (.n (some pl297) .e .e) .e) .e)) (.n none (.n none (.n none .e (.n (some pl409) .e .e)) .e) (.n none .e (.n (some pl249) .e .e))))) (.n none (.n none (.n none .e (.n (some pl101) .e .e)) .e) (.n none (.n (some pl45) .e .e) (.n none .e (.n none .e (.n (some pl253) .e .e))))))) (.n none (.n none (.n none (.n none (.n none .e (.n (some pl96) .e .e)) (.n none (.n none .e (.n (some pl208) (.n (some pl336) .e .e) .e)) (.n (some pl112) (.n (some pl176) .e .e) .e))) (.n none (.n none (.n none .e (.n (some pl200) .e .e)) .e) (.n none (.n none (.n none (.n (some pl280) .e .e) .e) .e) (.n (some pl120) .e (.n (some pl248) (.n (some pl376) .e .e) .e))))) (.n (some pl12) (.n none (.n none (.n none (.n (some pl132) .e .e) (.n (some pl196) .e .e)) .e) (.n none .e (.n none .e (.n (some pl244) .e .e)))) (.n none .e (.n none .e (.n none .e (.n none (.n (some pl380) .e .e) .e)))))) (.n none (.n none (.n none (.n none (.n (some pl66) .e .e) .e) (.n (some pl50) (.n none .e (.n (some pl210) .e .e)) .e)) (.n none (.n (some pl42) .e .e) .e)) (.n none (.n none (.n none (.n (some pl70) (.n none .e (.n (some pl390) .e .e)) .e) (.n (some pl102) .e (.n (some pl230) .e .e))) (.n none (.n none .e (.n (some pl214) .e .e)) .e)) (.n none (.n none (.n none (.n none (.n (some pl270) .e .e) .e) .e) .e) .e)))))
theorem okf12 : okB Tryz.prog (plansIn plTbl) 12 = true := by decide +kernel
theorem okf42 : okB Tryz.prog (plansIn plTbl) 42 = true := by decide +kernel
theorem okf45 : okB Tryz.prog (plansIn plTbl) 45 = true := by decide +kernel
theorem okf50 : okB Tryz.prog (plansIn plTbl) 50 = true := by decide +kernel
theorem okf51 : okB Tryz.prog (plansIn plTbl) 51 = true := by decide +kernel
theorem okf66 : okB Tryz.prog (plansIn plTbl) 66 = true := by decide +kernel
theorem okf70 : okB Tryz.prog (plansIn plTbl) 70 = true := by decide +kernel
theorem okf96 : okB Tryz.prog (plansIn plTbl) 96 = true := by decide +kernel
theorem okf97 : okB Tryz.prog (plansIn plTbl) 97 = true := by decide +kernel
theorem okf101 : okB Tryz.prog (plansIn plTbl) 101 = true := by decide +kernel
theorem okf102 : okB Tryz.prog (plansIn plTbl) 102 = true := by decide +kernel
theorem okf112 : okB Tryz.prog (plansIn plTbl) 112 = true := by decide +kernel
theorem okf120 : okB Tryz.prog (plansIn plTbl) 120 = true := by decide +kernel
theorem okf132 : okB Tryz.prog (plansIn plTbl) 132 = true := by decide +kernel
theorem ok_q167_21_0 : partOk Tryz.prog 167 21 [] 7 [true, true, true, true, true, true, true, true, true, true, true, true, true, true, true, false, false, false, false, false, false, false] q167_21_0 = true := by decide +kernel
def F_q167_21_0 : PF := (7, [true, true, true, true, true, true, true, true, true, true, true, true, true, true, true, false, false, false, false, false, false, false], q167_21_0) :: []
theorem all_q167_21_0 : AllOk Tryz.prog 167 21 F_q167_21_0 := allOk_cons allOk_nil ok_q167_21_0
theorem ok_q167_21_1 : partOk Tryz.prog 167 21 F_q167_21_0 8 [true, true, true, true, true, true, true, true, true, true, true, true, true, true, false, false, false, false, false, false, false, false] q167_21_1 = true := by decide +kernel
def F_q167_21_1 : PF := (8, [true, true, true, true, true, true, true, true, true, true, true, true, true, true, false, false, false, false, false, false, false, false], q167_21_1) :: F_q167_21_0
theorem all_q167_21_1 : AllOk Tryz.prog 167 21 F_q167_21_1 := allOk_cons all_q167_21_0 ok_q167_21_1
theorem ok_q167_21_2 : partOk Tryz.prog 167 21 F_q167_21_1 8 [true, true, true, true, true, true, true, true, true, true, true, true, false, true, true, false, false, false, false, false, false, false] q167_21_2 = true := by decide +kernel
def F_q167_21_2 : PF := (8, [true, true, true, true, true, true, true, true, true, true, true, true, false, true, true, false, false, false, false, false, false, false], q167_21_2) :: F_q167_21_1
theorem all_q167_21_2 : AllOk Tryz.prog 167 21 F_q167_21_2 := allOk_cons all_q167_21_1 ok_q167_21_2
theorem ok_q167_21_3 : partOk Tryz.prog 167 21 F_q167_21_2 8 [true, true, true, true, true, true, true, true, false, true, true, true, true, true, true, false, false, false, false, false, false, false] q167_21_3 = true := by decide +kernel
def F_q167_21_3 : PF := (8, [true, true, true, true, true, true, true, true, false, true, true, true, true, true, true, false, false, false, false, false, false, false], q167_21_3) :: F_q167_21_2
theorem all_q167_21_3 : AllOk Tryz.prog 167 21 F_q167_21_3 := allOk_cons all_q167_21_2 ok_q167_21_3
theorem ok_q167_21_4 : partOk Tryz.prog 167 21 F_q167_21_3 9 [true, true, true, true, true, true, true, true, false, true, true, true, true, true, false, false, false, false, false, false, false, false] q167_21_4 = true := by decide +kernel
def F_q167_21_4 : PF := (9, [true, true, true, true, true, true, true, true, false, true, true, true, true, true, false, false, false, false, false, false, false, false], q167_21_4) :: F_q167_21_3
theorem all_q167_21_4 : AllOk Tryz.prog 167 21 F_q167_21_4 := allOk_cons all_q167_21_3 ok_q167_21_4
theorem ok_q167_21_5 : partOk Tryz.prog 167 21 F_q167_21_4 9 [true, true, true, true, true, true, true, true, false, true, true, true, false, true, true, false, false, false, false, false, false, false] q167_21_5 = true := by decide +kernel
def F_q167_21_5 : PF := (9, [true, true, true, true, true, true, true, true, false, true, true, true, false, true, true, false, false, false, false, false, false, false], q167_21_5) :: F_q167_21_4
theorem all_q167_21_5 : AllOk Tryz.prog 167 21 F_q167_21_5 := allOk_cons all_q167_21_4 ok_q167_21_5
theorem ok_q167_21_6 : partOk Tryz.prog 167 21 F_q167_21_5 10 [true, true, true, true, true, true, true, true, false, true, true, true, false, true, false, false, false, false, false, false, false, false] q167_21_6 = true := by decide +kernel
def F_q167_21_6 : PF := (10, [true, true, true, true, true, true, true, true, false, true, true, true, false, true, false, false, false, false, false, false, false, false], q167_21_6) :: F_q167_21_5
theorem all_q167_21_6 : AllOk Tryz.prog 167 21 F_q167_21_6 := allOk_cons all_q167_21_5 ok_q167_21_6
theorem ok_q167_21_7 : partOk Tryz.prog 167 21 F_q167_21_6 9 [true, true, true, true, true, true, true, false, false, true, true, true, true, true, true, false, false, false, false, false, false, false] q167_21_7 = true := by decide +kernel
def F_q167_21_7 : PF := (9, [true, true, true, true, true, true, true, false, false, true, true, true, true, true, true, false, false, false, false, false, false, false], q167_21_7) :: F_q167_21_6
theorem all_q167_21_7 : AllOk Tryz.prog 167 21 F_q167_21_7 := allOk_cons all_q167_21_6 ok_q167_21_7
theorem ok_q167_21_8 : partOk Tryz.prog 167 21 F_q167_21_7 10 [true, true, true, true, true, true, true, false, false, true, true, true, true, true, false, false, false, false, false, false, false, false] q167_21_8 = true := by decide +kernel
def F_q167_21_8 : PF := (10, [true, true, true, true, true, true, true, false, false, true, true, true, true, true, false, false, false, false, false, false, false, false], q167_21_8) :: F_q167_21_7
theorem all_q167_21_8 : AllOk Tryz.prog 167 21 F_q167_21_8 := allOk_cons all_q167_21_7 ok_q167_21_8
theorem ok_q167_21_9 : partOk Tryz.prog 167 21 F_q167_21_8 10 [true, true, true, true, true, true, true, false, false, true, true, true, false, true, true, false, false, false, false, false, false, false] q167_21_9 = true := by decide +kernel
def F_q167_21_9 : PF := (10, [true, true, true, true, true, true, true, false, false, true, true, true, false, true, true, false, false, false, false, false, false, false], q167_21_9) :: F_q167_21_8
theorem all_q167_21_9 : AllOk Tryz.prog 167 21 F_q167_21_9 := allOk_cons all_q167_21_8 ok_q167_21_9
theorem ok_q167_21_10 : partOk Tryz.prog 167 21 F_q167_21_9 9 [true, true, true, true, true, false, true, true, false, true, true, true, true, true, true, false, false, false, false, false, false, false] q167_21_10 = true := by decide +kernel
def F_q167_21_10 : PF := (9, [true, true, true, true, true, false, true, true, false, true, true, true, true, true, true, false, false, false, false, false, false, false], q167_21_10) :: F_q167_21_9
theorem all_q167_21_10 : AllOk Tryz.prog 167 21 F_q167_21_10 := allOk_cons all_q167_21_9 ok_q167_21_10
theorem ok_q167_21_11 : partOk Tryz.prog 167 21 F_q167_21_10 10 [true, true, true, true, true, false, true, true, false, true, true, true, true, true, false, false, false, false, false, false, false, false] q167_21_11 = true := by decide +kernel
def F_q167_21_11 : PF := (10, [true, true, true, true, true, false, true, true, false, true, true, true, true, true, false, false, false, false, false, false, false, false], q167_21_11) :: F_q167_21_10
theorem all_q167_21_11 : AllOk Tryz.prog 167 21 F_q167_21_11 := allOk_cons all_q167_21_10 ok_q167_21_11
theorem ok_q167_21_12 : partOk Tryz.prog 167 21 F_q167_21_11 10 [true, true, true, true, true, false, true, true, false, true, true, true, false, true, true, false, false, false, false, false, false, false] q167_21_12 = true := by decide +kernel
def F_q167_21_12 : PF := (10, [true, true, true, true, true, false, true, true, false, true, true, true, false, true, true, false, false, false, false, false, false, false], q167_21_12) :: F_q167_21_11
theorem all_q167_21_12 : AllOk Tryz.prog 167 21 F_q167_21_12 := allOk_cons all_q167_21_11 ok_q167_21_12
theorem ok_q167_21_13 : partOk Tryz.prog 167 21 F_q167_21_12 10 [true, true, true, true, true, false, true, false, false, true, true, true, true, true, true, false, false, false, false, false, false, false] q167_21_13 = true := by decide +kernel
def F_q167_21_13 : PF := (10, [true, true, true, true, true, false, true, false, false, true, true, true, true, true, true, false, false, false, false, false, false, false], q167_21_13) :: F_q167_21_12
theorem all_q167_21_13 : AllOk Tryz.prog 167 21 F_q167_21_13 := allOk_cons all_q167_21_12 ok_q167_21_13
def pw167_21 : Plan := (.pure 0 (.pure 1 (.pure 2 (.pure 3 (.pure 4 (.pure 6 (.pure 9 (.pure 10 (.pure 11 (.pure 13 (.alt (.eff 5 (.alt (.eff 7 q167_21_6) (.alt (.eff 12 q167_21_8) (.eff 14 q167_21_9)))) (.alt (.eff 7 (.alt (.eff 5 q167_21_6) (.alt (.eff 12 q167_21_11) (.eff 14 q167_21_12)))) (.alt (.eff 12 (.alt (.eff 5 q167_21_8) (.alt (.eff 7 q167_21_11) (.eff 14 q167_21_13)))) (.eff 14 (.alt (.eff 5 q167_21_9) (.alt (.eff 7 q167_21_12) (.eff 12 q167_21_13)))))))))))))))))
theorem okw167_21 : wholeOk Tryz.prog 167 21 F_q167_21_13 pw167_21 = true := by decide +kernel
theorem ok_q167_22_0 : partOk Tryz.prog 167 22 [] 2 [true, true, true, true, true, true, true, true, true, true, true, true, true, true, true, true, true, false, false] q167_22_0 = true := by decide +kernel
def F_q167_22_0 : PF := (2, [true, true, true, true, true, true, true, true, true, true, true, true, true, true, true, true, true, false, false], q167_22_0) :: []
theorem all_q167_22_0 : AllOk Tryz.prog 167 22 F_q167_22_0 := allOk_cons allOk_nil ok_q167_22_0
theorem ok_q167_22_1 : partOk Tryz.prog 167 22 F_q167_22_0 3 [true, true, true, true, true, true, true, true, true, true, true, true, true, true, true, true, false, false, false] q167_22_1 = true := by decide +kernel
def F_q167_22_1 : PF := (3, [true, true, true, true, true, true, true, true, true, true, true, true, true, true, true, true, false, false, false], q167_22_1) :: F_q167_22_0
theorem all_q167_22_1 : AllOk Tryz.prog 167 22 F_q167_22_1 := allOk_cons all_q167_22_0 ok_q167_22_1
theorem ok_q167_22_2 : partOk Tryz.prog 167 22 F_q167_22_1 3 [true, true, true, true, true, true, true, true, true, true, true, true, true, true, false, true, true, false, false] q167_22_2 = true := by decide +kernel
def F_q167_22_2 : PF := (3, [true, true, true, true, true, true, true, true, true, true, true, true, true, true, false, true, true, false, false], q167_22_2) :: F_q167_22_1
theorem all_q167_22_2 : AllOk Tryz.prog 167 22 F_q167_22_2 := allOk_cons all_q167_22_1 ok_q167_22_2
theorem ok_q167_22_3 : partOk Tryz.prog 167 22 F_q167_22_2 4 [true, true, true, true, true, true, true, true, true, true, true, true, true, true, false, true, false, false, false] q167_22_3 = true := by decide +kernel
def F_q167_22_3 : PF := (4, [true, true, true, true, true, true, true, true, true, true, true, true, true, true, false, true, false, false, false], q167_22_3) :: F_q167_22_2
theorem all_q167_22_3 : AllOk Tryz.prog 167 22 F_q167_22_3 := allOk_cons all_q167_22_2 ok_q167_22_3
theorem ok_q167_22_4 : partOk Tryz.prog 167 22 F_q167_22_3 5 [true, true, true, true, true, true, true, true, true, true, true, true, true, false, true, false, false, false, false] q167_22_4 = true := by decide +kernel
def F_q167_22_4 : PF := (5, [true, true, true, true, true, true, true, true, true, true, true, true, true, false, true, false, false, false, false], q167_22_4) :: F_q167_22_3
theorem all_q167_22_4 : AllOk Tryz.prog 167 22 F_q167_22_4 := allOk_cons all_q167_22_3 ok_q167_22_4
theorem ok_q167_22_5 : partOk Tryz.prog 167 22 F_q167_22_4 4 [true, true, true, true, true, true, true, true, true, true, true, false, true, true, true, true, false, false, false] q167_22_5 = true := by decide +kernel
def F_q167_22_5 : PF := (4, [true, true, true, true, true, true, true, true, true, true, true, false, true, true, true, true, false, false, false], q167_22_5) :: F_q167_22_4
theorem all_q167_22_5 : AllOk Tryz.prog 167 22 F_q167_22_5 := allOk_cons all_q167_22_4 ok_q167_22_5
def pw167_22 : Plan := (.pure 0 (.pure 1 (.pure 2 (.pure 4 (.pure 6 (.pure 7 (.pure 8 (.pure 10 (.read 3 (.read 5 (.read 9 (.read 12 (.alt (.eff 11 (.alt (.eff 13 (.pure 15 q167_22_3)) (.eff 14 q167_22_4))) (.alt (.eff 13 (.pure 15 (.alt (.eff 11 q167_22_3) (.alt (.eff 14 q167_22_5) (.eff 16 (.read 11 q167_22_2)))))) (.eff 14 (.alt (.eff 11 q167_22_4) (.eff 13 (.pure 15 q167_22_5))))))))))))))))))
theorem okw167_22 : wholeOk Tryz.prog 167 22 F_q167_22_5 pw167_22 = true := by decide +kernel
theorem okf167 : okB Tryz.prog (plansIn plTbl) 167 = true := by
  refine okB_of (skip := [21, 22]) (by decide +kernel) ?_
  intro id hid ops ho
  simp only [List.mem_cons, List.not_mem_nil, or_false] at hid
  rcases hid with rfl | rfl
  · exact ⟨pw167_21, rfl, whole_ok all_q167_21_13 okw167_21 ops ho⟩
  · exact ⟨pw167_22, rfl, whole_ok all_q167_22_5 okw167_22 ops ho⟩
theorem okf169 : okB Tryz.prog (plansIn plTbl) 169 = true := by decide +kernel
theorem okf171 : okB Tryz.prog (plansIn plTbl) 171 = true := by decide +kernel
theorem okf176 : okB Tryz.prog (plansIn plTbl) 176 = true := by decide +kernel
theorem okf196 : okB Tryz.prog (plansIn plTbl) 196 = true := by decide +kernel
theorem okf200 : okB Tryz.prog (plansIn plTbl) 200 = true := by decide +kernel
theorem okf207 : okB Tryz.prog (plansIn plTbl) 207 = true := by decide +kernel
theorem okf208 : okB Tryz.prog (plansIn plTbl) 208 = true := by decide +kernel
theorem okf210 : okB Tryz.prog (plansIn plTbl) 210 = true := by decide +kernel
theorem okf211 : okB Tryz.prog (plansIn plTbl) 211 = true := by decide +kernel
theorem okf214 : okB Tryz.prog (plansIn plTbl) 214 = true := by decide +kernel
theorem okf230 : okB Tryz.prog (plansIn plTbl) 230 = true := by decide +kernel
theorem okf244 : okB Tryz.prog (plansIn plTbl) 244 = true := by decide +kernel
theorem okf248 : okB Tryz.prog (plansIn plTbl) 248 = true := by decide +kernel
theorem okf249 : okB Tryz.prog (plansIn plTbl) 249 = true := by decide +kernel
theorem okf253 : okB Tryz.prog (plansIn plTbl) 253 = true := by decide +kernel
theorem okf270 : okB Tryz.prog (plansIn plTbl) 270 = true := by decide +kernel
theorem okf273 : okB Tryz.prog (plansIn plTbl) 273 = true := by decide +kernel
theorem okf280 : okB Tryz.prog (plansIn plTbl) 280 = true := by decide +kernel
theorem okf283 : okB Tryz.prog (plansIn plTbl) 283 = true := by decide +kernel
theorem okf297 : okB Tryz.prog (plansIn plTbl) 297 = true := by decide +kernel
theorem okf307 : okB Tryz.prog (plansIn plTbl) 307 = true := by decide +kernel
theorem okf319 : okB Tryz.prog (plansIn plTbl) 319 = true := by decide +kernel
theorem okf327 : okB Tryz.prog (plansIn plTbl) 327 = true := by decide +kernel
theorem okf336 : okB Tryz.prog (plansIn plTbl) 336 = true := by decide +kernel
theorem okf376 : okB Tryz.prog (plansIn plTbl) 376 = true := by decide +kernel
theorem okf380 : okB Tryz.prog (plansIn plTbl) 380 = true := by decide +kernel
theorem okf390 : okB Tryz.prog (plansIn plTbl) 390 = true := by decide +kernel
theorem okf409 : okB Tryz.prog (plansIn plTbl) 409 = true := by decide +kernel
def plKeys : List Nat := [12, 42, 45, 50, 51, 66, 70, 96, 97, 101, 102, 112, 120, 132, 167, 169, 171, 176, 196, 200, 207, 208, 210, 211, 214, 230, 244, 248, 249, 253, 270, 273, 280, 283, 297, 307, 319, 327, 336, 376, 380, 390, 409]
theorem ok_keys : ∀ f, memN f plKeys = true → okB Tryz.prog (plansIn plTbl) f = true := (okB_cons okf12 (okB_cons okf42 (okB_cons okf45 (okB_cons okf50 (okB_cons okf51 (okB_cons okf66 (okB_cons okf70 (okB_cons okf96 (okB_cons okf97 (okB_cons okf101 (okB_cons okf102 (okB_cons okf112 (okB_cons okf120 (okB_cons okf132 (okB_cons okf167 (okB_cons okf169 (okB_cons okf171 (okB_cons okf176 (okB_cons okf196 (okB_cons okf200 (okB_cons okf207 (okB_cons okf208 (okB_cons okf210 (okB_cons okf211 (okB_cons okf214 (okB_cons okf230 (okB_cons okf244 (okB_cons okf248 (okB_cons okf249 (okB_cons okf253 (okB_cons okf270 (okB_cons okf273 (okB_cons okf280 (okB_cons okf283 (okB_cons okf297 (okB_cons okf307 (okB_cons okf319 (okB_cons okf327 (okB_cons okf336 (okB_cons okf376 (okB_cons okf380 (okB_cons okf390 (okB_cons okf409 okB_nil)))))))))))))))))))))))))))))))))))))))))))
theorem keys_all : keysIn plTbl plKeys 439 = true := by decide +kernel
theorem plans_ok : OkAll Tryz.prog (plansIn plTbl) := okB_all ok_keys keys_all (by decide +kernel)
theorem base_ok (l : List Value) (h : ∀ v ∈ l, v.oneCell' = true) (w : World) : @RunBase (sigOf (plansIn plTbl) l h w) Tryz.prog (plansIn plTbl) := RunBase.of mixed (by decide +kernel) plans_ok l h w
end Go.Proofs.YtfoabgljfikklaaGreatDoor.V
