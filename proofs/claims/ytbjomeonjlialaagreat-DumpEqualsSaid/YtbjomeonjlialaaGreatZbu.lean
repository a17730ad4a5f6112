/-
  The plans of the regions that draw their order, printed by a program; they go with every order. No condition.
-/
import Derived.Test.YtbjomeonjlialaaGreatZbt
import Derived.Test.YtbjomeonjlialaaGreatZai
set_option linter.unusedVariables false
set_option linter.unusedSimpArgs false
namespace Go.Proofs.YtbjomeonjlialaaGreat.V
def pl11 : List (Nat × Plan) := [(4, (.pure 0 (.pure 1 (.pure 2 (.pure 5 (.pure 6 (.pure 7 (.pure 10 (.pure 11 (.pure 12 (.read 3 (.read 8 (.read 13 (.eff 4 (.eff 9 (.eff 14 (.pure 15 (.eff 16 (.pure 17 (.eff 18 (.pure 19 (.eff 20 .done)))))))))))))))))))))),
  (5, (.pure 0 (.pure 1 (.pure 2 (.pure 5 (.pure 6 (.pure 7 (.pure 10 (.pure 11 (.pure 12 (.read 3 (.read 8 (.read 13 (.eff 4 (.eff 9 (.eff 14 (.pure 15 (.eff 16 (.pure 17 (.eff 18 (.pure 19 (.eff 20 .done))))))))))))))))))))))]
def q13_3_0 : Plan := (.eff 45 .done)
def q13_3_1 : Plan := (.eff 42 (.pure 43 q13_3_0))
def q13_3_2 : Plan := (.eff 37 q13_3_1)
def q13_3_3 : Plan := (.eff 32 q13_3_2)
def q13_3_4 : Plan := (.eff 27 q13_3_3)
def q13_3_5 : Plan := (.eff 26 q13_3_4)
def q13_3_6 : Plan := (.eff 21 q13_3_5)
def pl13 : List (Nat × Plan) := [(3, (.pure 0 (.pure 1 (.pure 2 (.pure 4 (.pure 5 (.pure 6 (.pure 8 (.pure 9 (.pure 10 (.pure 12 (.pure 13 (.pure 14 (.pure 17 (.pure 18 (.pure 19 (.pure 22 (.pure 23 (.pure 24 (.pure 28 (.pure 29 (.pure 30 (.pure 33 (.pure 34 (.pure 35 (.pure 38 (.pure 39 (.pure 40 (.pure 41 (.read 3 (.read 7 (.read 11 (.read 15 (.read 20 (.read 25 (.read 31 (.read 36 (.alt (.eff 16 (.alt (.eff 21 (.alt (.eff 26 (.alt (.eff 27 (.alt (.eff 32 (.alt (.eff 37 (.alt (.eff 42 (.pure 43 (.eff 44 q13_3_0))) (.eff 44 q13_3_1))) (.eff 44 q13_3_2))) (.eff 44 q13_3_3))) (.eff 44 q13_3_4))) (.eff 44 q13_3_5))) (.eff 44 q13_3_6))) (.eff 44 (.eff 16 q13_3_6))))))))))))))))))))))))))))))))))))))))]
def pl14 : List (Nat × Plan) := [(3, (.read 0 (.eff 1 (.eff 2 (.pure 3 (.eff 4 (.pure 5 .done)))))))]
def pl15 : List (Nat × Plan) := [(1, (.pure 0 (.pure 1 (.pure 2 (.pure 3 (.pure 4 (.pure 5 (.pure 6 (.pure 7 (.pure 8 (.read 9 (.eff 10 (.eff 11 (.pure 12 (.pure 13 (.pure 14 (.pure 15 (.pure 16 (.pure 17 (.pure 18 (.pure 19 (.pure 21 (.read 20 (.read 22 (.pure 23 (.pure 24 (.pure 25 .done)))))))))))))))))))))))))))]
def pl16 : List (Nat × Plan) := [(6, (.pure 0 (.pure 2 (.pure 3 (.pure 5 (.read 1 (.read 4 (.read 6 (.alt (.eff 7 (.pure 8 (.eff 9 (.eff 10 .done)))) (.eff 9 (.eff 7 (.pure 8 (.eff 10 .done))))))))))))),
  (9, (.pure 0 (.pure 1 (.pure 2 (.pure 4 (.pure 5 (.pure 6 (.read 3 (.read 7 (.eff 8 .done)))))))))),
  (10, (.pure 0 (.pure 1 (.pure 2 (.pure 4 (.pure 5 (.pure 6 (.pure 10 (.read 3 (.read 7 (.eff 8 (.pure 9 .done))))))))))))]
def pl17 : List (Nat × Plan) := [(8, (.pure 0 (.pure 2 (.pure 3 (.pure 4 (.pure 5 (.pure 6 (.eff 1 (.eff 7 (.pure 8 .done))))))))))]
def pl27 : List (Nat × Plan) := [(3, (.pure 0 (.pure 1 (.pure 2 (.pure 5 (.pure 6 (.pure 7 (.pure 10 (.pure 11 (.pure 12 (.pure 15 (.pure 16 (.pure 17 (.pure 20 (.pure 21 (.pure 22 (.pure 25 (.pure 26 (.pure 27 (.read 3 (.read 8 (.read 13 (.read 18 (.read 23 (.read 28 (.eff 4 (.eff 9 (.eff 14 (.eff 19 (.eff 24 (.eff 29 (.pure 30 (.eff 31 (.pure 32 .done)))))))))))))))))))))))))))))))))),
  (7, (.pure 0 (.pure 1 (.pure 2 (.pure 3 (.read 4 (.read 5 (.eff 6 (.eff 7 (.eff 8 (.pure 9 (.pure 10 (.eff 11 .done)))))))))))))]
def pl28 : List (Nat × Plan) := [(3, (.pure 0 (.pure 1 (.pure 2 (.pure 5 (.pure 6 (.pure 7 (.pure 11 (.pure 12 (.pure 13 (.pure 15 (.pure 16 (.pure 17 (.read 3 (.read 8 (.read 14 (.read 18 (.alt (.eff 4 (.alt (.eff 9 (.eff 10 (.pure 19 (.eff 20 (.pure 21 .done))))) (.eff 10 (.eff 9 (.pure 19 (.eff 20 (.pure 21 .done))))))) (.alt (.eff 9 (.alt (.eff 4 (.eff 10 (.pure 19 (.eff 20 (.pure 21 .done))))) (.eff 10 (.eff 4 (.pure 19 (.eff 20 (.pure 21 .done))))))) (.eff 10 (.alt (.eff 4 (.eff 9 (.pure 19 (.eff 20 (.pure 21 .done))))) (.eff 9 (.eff 4 (.pure 19 (.eff 20 (.pure 21 .done)))))))))))))))))))))))))),
  (7, (.pure 0 (.pure 1 (.pure 2 (.pure 4 (.read 3 (.read 5 (.eff 6 .done)))))))),
  (11, (.pure 0 (.pure 1 (.pure 2 (.pure 4 (.pure 5 (.read 3 (.eff 6 (.eff 7 .done)))))))))]
def pl30 : List (Nat × Plan) := [(3, (.pure 0 (.pure 1 (.pure 2 (.pure 4 (.pure 5 (.pure 6 (.pure 8 (.pure 9 (.pure 10 (.read 3 (.read 7 (.read 11 (.eff 12 (.pure 13 (.eff 14 (.pure 15 .done)))))))))))))))))]
def pl31 : List (Nat × Plan) := [(3, (.pure 0 (.pure 1 (.pure 2 (.pure 5 (.pure 6 (.pure 7 (.pure 9 (.pure 10 (.pure 11 (.read 3 (.read 8 (.read 12 (.eff 4 (.pure 13 (.eff 14 (.pure 15 .done)))))))))))))))))]
def pl56 : List (Nat × Plan) := [(5, (.pure 0 (.pure 1 (.pure 2 (.pure 3 (.pure 5 (.read 4 (.read 7 (.eff 6 (.eff 8 (.pure 9 .done)))))))))))]
def q65_2_0 : Plan := (.eff 3 (.eff 5 (.eff 7 (.eff 9 (.pure 10 (.eff 11 (.pure 12 (.eff 13 (.pure 14 (.eff 15 .done))))))))))
def q65_2_1 : Plan := (.read 6 q65_2_0)
def q65_2_2 : Plan := (.read 4 q65_2_1)
def q65_2_3 : Plan := (.eff 1 (.pure 8 q65_2_0))
def q65_2_4 : Plan := (.alt (.eff 1 (.pure 8 q65_2_1)) (.eff 6 q65_2_3))
def q65_2_5 : Plan := (.read 4 q65_2_0)
def q65_2_6 : Plan := (.alt (.eff 1 (.pure 8 q65_2_5)) (.eff 4 q65_2_3))
def q65_2_7 : Plan := (.alt (.eff 1 (.pure 8 (.read 2 q65_2_0))) (.eff 2 q65_2_3))
def pl65 : List (Nat × Plan) := [(1, (.read 0 (.read 2 (.read 4 (.read 6 (.read 8 (.read 10 (.read 12 (.eff 1 (.eff 3 (.eff 5 (.eff 7 (.eff 9 (.eff 11 (.eff 13 (.pure 14 (.pure 15 (.eff 16 .done)))))))))))))))))),
  (2, (.read 0 (.alt (.eff 1 (.pure 8 (.read 2 q65_2_2))) (.alt (.eff 2 (.alt (.eff 1 (.pure 8 q65_2_2)) (.alt (.eff 4 q65_2_4) (.eff 6 q65_2_6)))) (.alt (.eff 4 (.alt (.eff 1 (.pure 8 (.read 2 q65_2_1))) (.alt (.eff 2 q65_2_4) (.eff 6 q65_2_7)))) (.eff 6 (.alt (.eff 1 (.pure 8 (.read 2 q65_2_5))) (.alt (.eff 2 q65_2_6) (.eff 4 q65_2_7)))))))))]
def pl67 : List (Nat × Plan) := [(6, (.pure 0 (.pure 1 (.pure 2 (.pure 4 (.pure 5 (.pure 6 (.read 3 (.read 7 (.pure 8 .done))))))))))]
def pl70 : List (Nat × Plan) := [(3, (.pure 0 (.pure 1 (.pure 2 (.pure 4 (.pure 5 (.pure 6 (.pure 9 (.pure 10 (.pure 11 (.read 3 (.read 7 (.read 12 (.eff 8 (.eff 13 (.pure 14 (.eff 15 (.pure 16 .done))))))))))))))))))]
def pl71 : List (Nat × Plan) := [(3, (.pure 0 (.pure 1 (.pure 2 (.pure 4 (.pure 5 (.pure 6 (.pure 9 (.pure 10 (.pure 11 (.read 3 (.read 7 (.read 12 (.eff 8 (.pure 13 (.eff 14 (.pure 15 .done)))))))))))))))))]
def pl73 : List (Nat × Plan) := [(3, (.pure 0 (.pure 1 (.pure 2 (.pure 5 (.pure 6 (.pure 7 (.read 3 (.read 8 (.eff 4 (.eff 9 (.pure 10 (.eff 11 (.pure 12 .done))))))))))))))]
def pl76 : List (Nat × Plan) := [(1, (.pure 0 (.pure 3 (.read 1 (.read 4 (.eff 2 (.pure 6 (.eff 5 (.eff 7 (.pure 8 (.eff 9 .done)))))))))))]
def pl78 : List (Nat × Plan) := [(3, (.pure 0 (.pure 1 (.pure 2 (.pure 4 (.pure 5 (.pure 6 (.pure 8 (.pure 9 (.pure 10 (.pure 13 (.pure 14 (.pure 15 (.pure 18 (.pure 19 (.pure 20 (.pure 23 (.pure 24 (.pure 25 (.read 3 (.read 7 (.read 11 (.read 16 (.read 21 (.read 26 (.eff 12 (.eff 17 (.eff 22 (.pure 27 (.eff 28 (.pure 29 .done)))))))))))))))))))))))))))))))]
def pl86 : List (Nat × Plan) := [(3, (.pure 0 (.pure 1 (.pure 2 (.pure 3 (.pure 5 (.read 4 (.eff 6 (.eff 7 (.pure 8 (.pure 9 (.eff 10 .done))))))))))))]
def pl104 : List (Nat × Plan) := [(6, (.pure 5 (.read 0 (.read 1 (.pure 2 (.pure 3 (.read 4 (.pure 6 (.read 7 (.eff 8 (.eff 9 (.eff 10 (.eff 11 .done)))))))))))))]
def pl106 : List (Nat × Plan) := [(6, (.pure 1 (.pure 2 (.pure 3 (.read 0 (.read 4 (.eff 5 .done)))))))]
def pl123 : List (Nat × Plan) := [(6, (.pure 0 (.pure 1 (.pure 2 (.pure 4 (.pure 6 (.pure 8 (.pure 9 (.pure 10 (.pure 11 (.pure 13 (.pure 16 (.pure 17 (.pure 18 (.pure 20 (.pure 21 (.pure 22 (.read 3 (.read 5 (.read 7 (.read 12 (.read 14 (.read 19 (.read 23 (.eff 15 (.eff 24 (.pure 25 (.eff 26 (.pure 27 (.pure 28 (.pure 29 (.pure 30 (.pure 31 .done))))))))))))))))))))))))))))))))),
  (12, (.pure 0 (.pure 1 (.pure 2 (.pure 4 (.pure 5 (.pure 6 (.pure 8 (.read 3 (.read 7 (.eff 9 .done)))))))))))]
def pl142 : List (Nat × Plan) := [(1, (.pure 0 (.pure 1 (.pure 3 (.pure 4 (.pure 5 (.pure 6 (.read 2 (.read 7 (.pure 8 (.pure 9 (.pure 10 (.pure 11 (.eff 12 .done))))))))))))))]
def pl175 : List (Nat × Plan) := [(3, (.pure 0 (.pure 1 (.pure 2 (.pure 4 (.read 3 (.pure 6 (.pure 7 (.alt (.eff 5 (.eff 8 (.pure 9 (.pure 10 (.eff 11 .done))))) (.eff 8 (.read 5 (.pure 9 (.pure 10 (.eff 11 .done)))))))))))))),
  (4, (.pure 0 (.pure 1 (.pure 2 (.pure 3 (.pure 4 (.read 5 (.eff 6 .done)))))))),
  (8, (.pure 0 (.pure 1 (.pure 2 (.pure 4 (.read 3 (.read 5 (.alt (.eff 6 (.pure 7 (.pure 8 (.pure 9 (.eff 10 (.eff 11 (.pure 12 .done))))))) (.eff 10 (.eff 6 (.pure 7 (.pure 8 (.pure 9 (.eff 11 (.pure 12 .done))))))))))))))),
  (9, (.pure 0 (.pure 1 (.pure 2 (.read 3 (.read 4 (.eff 5 (.pure 6 (.pure 7 (.pure 8 (.pure 9 (.pure 10 .done)))))))))))),
  (16, (.pure 0 (.pure 1 (.pure 2 (.pure 4 (.pure 6 (.read 3 (.read 5 (.read 7 (.eff 8 (.pure 9 (.pure 10 (.pure 11 (.pure 12 (.pure 13 .done))))))))))))))),
  (38, (.pure 0 (.pure 1 (.pure 2 (.pure 5 (.read 3 (.read 6 (.eff 4 (.eff 7 (.eff 8 .done))))))))))]
def q190_21_0 : Plan := (.eff 15 (.pure 16 (.pure 17 (.eff 18 (.pure 19 (.pure 20 (.eff 21 .done)))))))
def q190_21_1 : Plan := (.eff 14 q190_21_0)
def q190_21_2 : Plan := (.eff 12 q190_21_0)
def q190_21_3 : Plan := (.eff 8 q190_21_0)
def q190_21_4 : Plan := (.alt (.eff 8 q190_21_1) (.eff 14 q190_21_3))
def q190_21_5 : Plan := (.alt (.eff 8 q190_21_2) (.eff 12 q190_21_3))
def q190_21_6 : Plan := (.alt (.eff 8 (.alt (.eff 12 q190_21_1) (.eff 14 q190_21_2))) (.alt (.eff 12 q190_21_4) (.eff 14 q190_21_5)))
def q190_21_7 : Plan := (.eff 7 q190_21_3)
def q190_21_8 : Plan := (.alt (.eff 7 q190_21_4) (.eff 14 q190_21_7))
def q190_21_9 : Plan := (.alt (.eff 7 q190_21_5) (.eff 12 q190_21_7))
def q190_21_10 : Plan := (.eff 5 q190_21_3)
def q190_21_11 : Plan := (.alt (.eff 5 q190_21_4) (.eff 14 q190_21_10))
def q190_21_12 : Plan := (.alt (.eff 5 q190_21_5) (.eff 12 q190_21_10))
def q190_21_13 : Plan := (.alt (.eff 5 q190_21_7) (.eff 7 q190_21_10))
def q190_22_0 : Plan := (.pure 17 (.eff 18 .done))
def q190_22_1 : Plan := (.eff 16 q190_22_0)
def q190_22_2 : Plan := (.read 14 q190_22_0)
def q190_22_3 : Plan := (.alt (.eff 14 q190_22_1) (.eff 16 q190_22_2))
def q190_22_4 : Plan := (.eff 13 (.pure 15 q190_22_1))
def q190_22_5 : Plan := (.alt (.eff 11 q190_22_1) (.eff 16 (.read 11 q190_22_0)))
def pl190 : List (Nat × Plan) := [(20, (.pure 0 (.pure 1 (.pure 2 (.pure 5 (.read 3 (.pure 4 (.read 6 (.pure 7 .done))))))))),
  (21, (.pure 0 (.pure 1 (.pure 2 (.pure 3 (.pure 4 (.pure 6 (.pure 9 (.pure 10 (.pure 11 (.pure 13 (.alt (.eff 5 (.alt (.eff 7 q190_21_6) (.alt (.eff 12 q190_21_8) (.eff 14 q190_21_9)))) (.alt (.eff 7 (.alt (.eff 5 q190_21_6) (.alt (.eff 12 q190_21_11) (.eff 14 q190_21_12)))) (.alt (.eff 12 (.alt (.eff 5 q190_21_8) (.alt (.eff 7 q190_21_11) (.eff 14 q190_21_13)))) (.eff 14 (.alt (.eff 5 q190_21_9) (.alt (.eff 7 q190_21_12) (.eff 12 q190_21_13)))))))))))))))))),
  (22, (.pure 0 (.pure 1 (.pure 2 (.pure 4 (.pure 6 (.pure 7 (.pure 8 (.pure 10 (.read 3 (.read 5 (.read 9 (.read 12 (.alt (.eff 11 (.alt (.eff 13 (.pure 15 q190_22_3)) (.eff 14 q190_22_4))) (.alt (.eff 13 (.pure 15 (.alt (.eff 11 q190_22_3) (.alt (.eff 14 q190_22_5) (.eff 16 (.read 11 q190_22_2)))))) (.eff 14 (.alt (.eff 11 q190_22_4) (.eff 13 (.pure 15 q190_22_5))))))))))))))))))),
  (23, (.pure 0 (.pure 1 (.pure 2 (.pure 4 (.pure 6 (.read 3 (.read 5 (.read 7 (.eff 8 .done)))))))))),
  (24, (.pure 0 (.pure 1 (.pure 2 (.pure 4 (.read 3 (.read 5 (.eff 6 .done))))))))]
def pl192 : List (Nat × Plan) := [(23, (.pure 0 (.pure 1 (.pure 2 (.pure 4 (.pure 5 (.pure 6 (.pure 7 (.pure 9 (.pure 11 (.read 3 (.read 8 (.read 10 (.eff 12 (.eff 13 (.eff 14 .done))))))))))))))))]
def pl194 : List (Nat × Plan) := [(2, (.pure 0 (.pure 1 (.pure 2 (.pure 3 (.pure 4 (.pure 5 (.pure 7 (.pure 8 (.read 6 (.read 9 (.eff 10 (.pure 11 (.pure 12 .done))))))))))))))]
def pl244 : List (Nat × Plan) := [(4, (.pure 0 (.pure 1 (.pure 2 (.pure 4 (.pure 5 (.alt (.eff 3 (.eff 6 (.pure 7 (.pure 8 (.eff 9 .done))))) (.eff 6 (.read 3 (.pure 7 (.pure 8 (.eff 9 .done))))))))))))]
def pl259 : List (Nat × Plan) := [(1, (.pure 0 (.pure 1 (.pure 2 (.pure 4 (.pure 5 (.pure 6 (.pure 8 (.pure 10 (.pure 11 (.pure 12 (.read 3 (.read 7 (.read 13 (.pure 14 (.pure 15 (.eff 9 (.pure 16 (.pure 17 (.pure 18 .done))))))))))))))))))))]
def pl262 : List (Nat × Plan) := [(3, (.pure 0 (.pure 1 (.pure 2 (.pure 3 (.pure 5 (.pure 6 (.pure 7 (.pure 8 (.read 4 (.pure 10 (.read 9 (.pure 11 .done)))))))))))))]
def pl266 : List (Nat × Plan) := [(9, (.pure 0 (.pure 1 (.pure 2 (.pure 5 (.pure 6 (.pure 7 (.read 3 (.pure 4 (.read 8 (.pure 9 (.pure 10 .done))))))))))))]
def pl267 : List (Nat × Plan) := [(9, (.pure 0 (.pure 1 (.pure 2 (.pure 6 (.pure 7 (.pure 8 (.read 3 (.pure 4 (.pure 5 (.read 9 (.pure 10 (.pure 11 (.pure 12 .done))))))))))))))]
def pl271 : List (Nat × Plan) := [(11, (.pure 0 (.pure 1 (.pure 2 (.pure 4 (.pure 5 (.pure 6 (.read 3 (.read 7 (.pure 8 .done)))))))))),
  (19, (.pure 0 (.pure 1 (.pure 2 (.pure 4 (.pure 5 (.pure 6 (.read 3 (.read 7 (.pure 8 (.pure 9 .done))))))))))),
  (23, (.pure 0 (.pure 1 (.pure 2 (.pure 4 (.pure 5 (.pure 6 (.pure 7 (.pure 9 (.read 3 (.read 8 (.pure 10 (.pure 11 (.eff 12 (.pure 13 (.eff 14 .done))))))))))))))))]
def pl285 : List (Nat × Plan) := [(3, (.pure 0 (.pure 1 (.pure 2 (.pure 4 (.pure 5 (.pure 6 (.read 3 (.pure 8 (.read 7 (.pure 9 .done)))))))))))]
def pl288 : List (Nat × Plan) := [(1, (.pure 0 (.pure 1 (.pure 2 (.pure 4 (.pure 6 (.pure 7 (.pure 8 (.read 3 (.read 9 (.pure 10 (.pure 11 (.eff 5 (.pure 12 (.pure 13 .done))))))))))))))),
  (2, (.pure 0 (.pure 1 (.pure 2 (.pure 4 (.read 3 (.pure 5 (.read 6 (.pure 7 (.pure 8 (.pure 9 (.pure 10 (.pure 11 (.pure 13 (.pure 14 (.pure 15 (.pure 17 (.pure 26 (.read 12 (.read 16 (.pure 18 (.read 19 (.pure 20 (.pure 21 (.read 22 (.pure 23 (.pure 24 (.read 25 (.pure 27 (.pure 28 .done))))))))))))))))))))))))))))))]
def pl295 : List (Nat × Plan) := [(1, (.pure 0 (.pure 1 (.pure 2 (.pure 4 (.pure 6 (.pure 7 (.pure 8 (.read 3 (.read 9 (.pure 10 (.eff 5 (.eff 11 (.pure 12 (.pure 13 (.pure 14 (.pure 15 (.pure 16 .done))))))))))))))))))]
def pl298 : List (Nat × Plan) := [(2, (.pure 0 (.pure 1 (.pure 2 (.pure 4 (.read 3 (.read 5 (.eff 6 .done)))))))),
  (5, (.pure 0 (.pure 1 (.pure 2 (.pure 4 (.read 3 (.read 5 (.eff 6 .done))))))))]
def pl350 : List (Nat × Plan) := [(3, (.pure 0 (.pure 1 (.pure 2 (.pure 3 (.pure 5 (.pure 6 (.pure 7 (.pure 8 (.read 4 (.pure 10 (.read 9 (.pure 11 .done)))))))))))))]
def plTbl : Tr (List (Nat × Plan)) := (.n none (.n none (.n none (.n none (.n (some pl15) (.n (some pl31) .e .e) (.n none (.n none (.n none (.n (some pl271) .e .e) .e) .e) (.n none (.n (some pl175) .e .e) .e))) (.n none (.n none (.n (some pl71) .e .e) (.n none (.n none (.n (some pl295) .e .e) .e) .e)) .e)) (.n (some pl11) (.n none (.n none (.n (some pl67) (.n none (.n (some pl259) .e .e) .e) .e) .e) .e) (.n (some pl27) (.n none (.n none (.n none (.n (some pl267) .e .e) .e) .e) .e) (.n none .e (.n (some pl123) .e .e))))) (.n none (.n none (.n (some pl17) (.n none (.n (some pl65) .e .e) .e) .e) (.n none (.n none (.n (some pl73) .e .e) .e) .e)) (.n (some pl13) .e (.n none .e (.n none (.n none (.n none (.n (some pl285) .e .e) .e) .e) .e))))) (.n none (.n none (.n none (.n (some pl16) (.n none (.n none .e (.n (some pl192) .e .e)) (.n none (.n none (.n (some pl288) .e .e) .e) .e)) .e) (.n none (.n none .e (.n (some pl104) .e .e)) (.n (some pl56) .e .e))) (.n none (.n none .e (.n none .e (.n none .e (.n (some pl244) .e .e)))) (.n (some pl28) (.n none (.n (some pl76) .e .e) .e) .e))) (.n none (.n none (.n none (.n none (.n none .e (.n (some pl194) .e .e)) .e) .e) (.n none (.n none (.n none (.n none (.n (some pl266) .e .e) .e) .e) (.n (some pl106) (.n none (.n (some pl298) .e .e) .e) .e)) .e)) (.n (some pl14) (.n none (.n none (.n (some pl70) (.n none (.n (some pl262) .e .e) .e) .e) .e) (.n none (.n (some pl86) .e .e) .e)) (.n (some pl30) (.n none (.n (some pl78) (.n (some pl142) .e .e) .e) .e) (.n none (.n none .e (.n none (.n (some pl350) .e .e) .e)) (.n none (.n (some pl190) .e .e) .e)))))))
theorem okf11 : okB Tryz.prog (plansIn plTbl) 11 = true := by decide +kernel
theorem ok_q13_3_0 : partOk Tryz.prog 13 3 [] 1 [true, true, true, true, true, true, true, true, true, true, true, true, true, true, true, true, true, true, true, true, true, true, true, true, true, true, true, true, true, true, true, true, true, true, true, true, true, true, true, true, true, true, true, true, true, false] q13_3_0 = true := by decide +kernel
def F_q13_3_0 : PF := (1, [true, true, true, true, true, true, true, true, true, true, true, true, true, true, true, true, true, true, true, true, true, true, true, true, true, true, true, true, true, true, true, true, true, true, true, true, true, true, true, true, true, true, true, true, true, false], q13_3_0) :: []
theorem all_q13_3_0 : AllOk Tryz.prog 13 3 F_q13_3_0 := allOk_cons allOk_nil ok_q13_3_0
theorem ok_q13_3_1 : partOk Tryz.prog 13 3 F_q13_3_0 3 [true, true, true, true, true, true, true, true, true, true, true, true, true, true, true, true, true, true, true, true, true, true, true, true, true, true, true, true, true, true, true, true, true, true, true, true, true, true, true, true, true, true, false, false, true, false] q13_3_1 = true := by decide +kernel
def F_q13_3_1 : PF := (3, [true, true, true, true, true, true, true, true, true, true, true, true, true, true, true, true, true, true, true, true, true, true, true, true, true, true, true, true, true, true, true, true, true, true, true, true, true, true, true, true, true, true, false, false, true, false], q13_3_1) :: F_q13_3_0
theorem all_q13_3_1 : AllOk Tryz.prog 13 3 F_q13_3_1 := allOk_cons all_q13_3_0 ok_q13_3_1
theorem ok_q13_3_2 : partOk Tryz.prog 13 3 F_q13_3_1 4 [true, true, true, true, true, true, true, true, true, true, true, true, true, true, true, true, true, true, true, true, true, true, true, true, true, true, true, true, true, true, true, true, true, true, true, true, true, false, true, true, true, true, false, false, true, false] q13_3_2 = true := by decide +kernel
def F_q13_3_2 : PF := (4, [true, true, true, true, true, true, true, true, true, true, true, true, true, true, true, true, true, true, true, true, true, true, true, true, true, true, true, true, true, true, true, true, true, true, true, true, true, false, true, true, true, true, false, false, true, false], q13_3_2) :: F_q13_3_1
theorem all_q13_3_2 : AllOk Tryz.prog 13 3 F_q13_3_2 := allOk_cons all_q13_3_1 ok_q13_3_2
theorem ok_q13_3_3 : partOk Tryz.prog 13 3 F_q13_3_2 5 [true, true, true, true, true, true, true, true, true, true, true, true, true, true, true, true, true, true, true, true, true, true, true, true, true, true, true, true, true, true, true, true, false, true, true, true, true, false, true, true, true, true, false, false, true, false] q13_3_3 = true := by decide +kernel
def F_q13_3_3 : PF := (5, [true, true, true, true, true, true, true, true, true, true, true, true, true, true, true, true, true, true, true, true, true, true, true, true, true, true, true, true, true, true, true, true, false, true, true, true, true, false, true, true, true, true, false, false, true, false], q13_3_3) :: F_q13_3_2
theorem all_q13_3_3 : AllOk Tryz.prog 13 3 F_q13_3_3 := allOk_cons all_q13_3_2 ok_q13_3_3
theorem ok_q13_3_4 : partOk Tryz.prog 13 3 F_q13_3_3 6 [true, true, true, true, true, true, true, true, true, true, true, true, true, true, true, true, true, true, true, true, true, true, true, true, true, true, true, false, true, true, true, true, false, true, true, true, true, false, true, true, true, true, false, false, true, false] q13_3_4 = true := by decide +kernel
def F_q13_3_4 : PF := (6, [true, true, true, true, true, true, true, true, true, true, true, true, true, true, true, true, true, true, true, true, true, true, true, true, true, true, true, false, true, true, true, true, false, true, true, true, true, false, true, true, true, true, false, false, true, false], q13_3_4) :: F_q13_3_3
theorem all_q13_3_4 : AllOk Tryz.prog 13 3 F_q13_3_4 := allOk_cons all_q13_3_3 ok_q13_3_4
theorem ok_q13_3_5 : partOk Tryz.prog 13 3 F_q13_3_4 7 [true, true, true, true, true, true, true, true, true, true, true, true, true, true, true, true, true, true, true, true, true, true, true, true, true, true, false, false, true, true, true, true, false, true, true, true, true, false, true, true, true, true, false, false, true, false] q13_3_5 = true := by decide +kernel
def F_q13_3_5 : PF := (7, [true, true, true, true, true, true, true, true, true, true, true, true, true, true, true, true, true, true, true, true, true, true, true, true, true, true, false, false, true, true, true, true, false, true, true, true, true, false, true, true, true, true, false, false, true, false], q13_3_5) :: F_q13_3_4
theorem all_q13_3_5 : AllOk Tryz.prog 13 3 F_q13_3_5 := allOk_cons all_q13_3_4 ok_q13_3_5
theorem ok_q13_3_6 : partOk Tryz.prog 13 3 F_q13_3_5 8 [true, true, true, true, true, true, true, true, true, true, true, true, true, true, true, true, true, true, true, true, true, false, true, true, true, true, false, false, true, true, true, true, false, true, true, true, true, false, true, true, true, true, false, false, true, false] q13_3_6 = true := by decide +kernel
def F_q13_3_6 : PF := (8, [true, true, true, true, true, true, true, true, true, true, true, true, true, true, true, true, true, true, true, true, true, false, true, true, true, true, false, false, true, true, true, true, false, true, true, true, true, false, true, true, true, true, false, false, true, false], q13_3_6) :: F_q13_3_5
theorem all_q13_3_6 : AllOk Tryz.prog 13 3 F_q13_3_6 := allOk_cons all_q13_3_5 ok_q13_3_6
def pw13_3 : Plan := (.pure 0 (.pure 1 (.pure 2 (.pure 4 (.pure 5 (.pure 6 (.pure 8 (.pure 9 (.pure 10 (.pure 12 (.pure 13 (.pure 14 (.pure 17 (.pure 18 (.pure 19 (.pure 22 (.pure 23 (.pure 24 (.pure 28 (.pure 29 (.pure 30 (.pure 33 (.pure 34 (.pure 35 (.pure 38 (.pure 39 (.pure 40 (.pure 41 (.read 3 (.read 7 (.read 11 (.read 15 (.read 20 (.read 25 (.read 31 (.read 36 (.alt (.eff 16 (.alt (.eff 21 (.alt (.eff 26 (.alt (.eff 27 (.alt (.eff 32 (.alt (.eff 37 (.alt (.eff 42 (.pure 43 (.eff 44 q13_3_0))) (.eff 44 q13_3_1))) (.eff 44 q13_3_2))) (.eff 44 q13_3_3))) (.eff 44 q13_3_4))) (.eff 44 q13_3_5))) (.eff 44 q13_3_6))) (.eff 44 (.eff 16 q13_3_6)))))))))))))))))))))))))))))))))))))))
theorem okw13_3 : wholeOk Tryz.prog 13 3 F_q13_3_6 pw13_3 = true := by decide +kernel
theorem okf13 : okB Tryz.prog (plansIn plTbl) 13 = true := by
  refine okB_of (skip := [3]) (by decide +kernel) ?_
  intro id hid ops ho
  simp only [List.mem_cons, List.not_mem_nil, or_false] at hid
  rcases hid with rfl
  · exact ⟨pw13_3, rfl, whole_ok all_q13_3_6 okw13_3 ops ho⟩
theorem okf14 : okB Tryz.prog (plansIn plTbl) 14 = true := by decide +kernel
theorem okf15 : okB Tryz.prog (plansIn plTbl) 15 = true := by decide +kernel
theorem okf16 : okB Tryz.prog (plansIn plTbl) 16 = true := by decide +kernel
theorem okf17 : okB Tryz.prog (plansIn plTbl) 17 = true := by decide +kernel
theorem okf27 : okB Tryz.prog (plansIn plTbl) 27 = true := by decide +kernel
theorem okf28 : okB Tryz.prog (plansIn plTbl) 28 = true := by decide +kernel
theorem okf30 : okB Tryz.prog (plansIn plTbl) 30 = true := by decide +kernel
theorem okf31 : okB Tryz.prog (plansIn plTbl) 31 = true := by decide +kernel
theorem okf56 : okB Tryz.prog (plansIn plTbl) 56 = true := by decide +kernel
theorem ok_q65_2_0 : partOk Tryz.prog 65 2 [] 10 [true, true, true, false, true, false, true, false, true, false, false, false, false, false, false, false] q65_2_0 = true := by decide +kernel
def F_q65_2_0 : PF := (10, [true, true, true, false, true, false, true, false, true, false, false, false, false, false, false, false], q65_2_0) :: []
theorem all_q65_2_0 : AllOk Tryz.prog 65 2 F_q65_2_0 := allOk_cons allOk_nil ok_q65_2_0
theorem ok_q65_2_1 : partOk Tryz.prog 65 2 F_q65_2_0 11 [true, true, true, false, true, false, false, false, true, false, false, false, false, false, false, false] q65_2_1 = true := by decide +kernel
def F_q65_2_1 : PF := (11, [true, true, true, false, true, false, false, false, true, false, false, false, false, false, false, false], q65_2_1) :: F_q65_2_0
theorem all_q65_2_1 : AllOk Tryz.prog 65 2 F_q65_2_1 := allOk_cons all_q65_2_0 ok_q65_2_1
theorem ok_q65_2_2 : partOk Tryz.prog 65 2 F_q65_2_1 12 [true, true, true, false, false, false, false, false, true, false, false, false, false, false, false, false] q65_2_2 = true := by decide +kernel
def F_q65_2_2 : PF := (12, [true, true, true, false, false, false, false, false, true, false, false, false, false, false, false, false], q65_2_2) :: F_q65_2_1
theorem all_q65_2_2 : AllOk Tryz.prog 65 2 F_q65_2_2 := allOk_cons all_q65_2_1 ok_q65_2_2
theorem ok_q65_2_3 : partOk Tryz.prog 65 2 F_q65_2_2 12 [true, false, true, false, true, false, true, false, false, false, false, false, false, false, false, false] q65_2_3 = true := by decide +kernel
def F_q65_2_3 : PF := (12, [true, false, true, false, true, false, true, false, false, false, false, false, false, false, false, false], q65_2_3) :: F_q65_2_2
theorem all_q65_2_3 : AllOk Tryz.prog 65 2 F_q65_2_3 := allOk_cons all_q65_2_2 ok_q65_2_3
theorem ok_q65_2_4 : partOk Tryz.prog 65 2 F_q65_2_3 13 [true, false, true, false, true, false, false, false, false, false, false, false, false, false, false, false] q65_2_4 = true := by decide +kernel
def F_q65_2_4 : PF := (13, [true, false, true, false, true, false, false, false, false, false, false, false, false, false, false, false], q65_2_4) :: F_q65_2_3
theorem all_q65_2_4 : AllOk Tryz.prog 65 2 F_q65_2_4 := allOk_cons all_q65_2_3 ok_q65_2_4
theorem ok_q65_2_5 : partOk Tryz.prog 65 2 F_q65_2_4 11 [true, true, true, false, false, false, true, false, true, false, false, false, false, false, false, false] q65_2_5 = true := by decide +kernel
def F_q65_2_5 : PF := (11, [true, true, true, false, false, false, true, false, true, false, false, false, false, false, false, false], q65_2_5) :: F_q65_2_4
theorem all_q65_2_5 : AllOk Tryz.prog 65 2 F_q65_2_5 := allOk_cons all_q65_2_4 ok_q65_2_5
theorem ok_q65_2_6 : partOk Tryz.prog 65 2 F_q65_2_5 13 [true, false, true, false, false, false, true, false, false, false, false, false, false, false, false, false] q65_2_6 = true := by decide +kernel
def F_q65_2_6 : PF := (13, [true, false, true, false, false, false, true, false, false, false, false, false, false, false, false, false], q65_2_6) :: F_q65_2_5
theorem all_q65_2_6 : AllOk Tryz.prog 65 2 F_q65_2_6 := allOk_cons all_q65_2_5 ok_q65_2_6
theorem ok_q65_2_7 : partOk Tryz.prog 65 2 F_q65_2_6 13 [true, false, false, false, true, false, true, false, false, false, false, false, false, false, false, false] q65_2_7 = true := by decide +kernel
def F_q65_2_7 : PF := (13, [true, false, false, false, true, false, true, false, false, false, false, false, false, false, false, false], q65_2_7) :: F_q65_2_6
theorem all_q65_2_7 : AllOk Tryz.prog 65 2 F_q65_2_7 := allOk_cons all_q65_2_6 ok_q65_2_7
def pw65_2 : Plan := (.read 0 (.alt (.eff 1 (.pure 8 (.read 2 q65_2_2))) (.alt (.eff 2 (.alt (.eff 1 (.pure 8 q65_2_2)) (.alt (.eff 4 q65_2_4) (.eff 6 q65_2_6)))) (.alt (.eff 4 (.alt (.eff 1 (.pure 8 (.read 2 q65_2_1))) (.alt (.eff 2 q65_2_4) (.eff 6 q65_2_7)))) (.eff 6 (.alt (.eff 1 (.pure 8 (.read 2 q65_2_5))) (.alt (.eff 2 q65_2_6) (.eff 4 q65_2_7))))))))
theorem okw65_2 : wholeOk Tryz.prog 65 2 F_q65_2_7 pw65_2 = true := by decide +kernel
theorem okf65 : okB Tryz.prog (plansIn plTbl) 65 = true := by
  refine okB_of (skip := [2]) (by decide +kernel) ?_
  intro id hid ops ho
  simp only [List.mem_cons, List.not_mem_nil, or_false] at hid
  rcases hid with rfl
  · exact ⟨pw65_2, rfl, whole_ok all_q65_2_7 okw65_2 ops ho⟩
theorem okf67 : okB Tryz.prog (plansIn plTbl) 67 = true := by decide +kernel
theorem okf70 : okB Tryz.prog (plansIn plTbl) 70 = true := by decide +kernel
theorem okf71 : okB Tryz.prog (plansIn plTbl) 71 = true := by decide +kernel
theorem okf73 : okB Tryz.prog (plansIn plTbl) 73 = true := by decide +kernel
theorem okf76 : okB Tryz.prog (plansIn plTbl) 76 = true := by decide +kernel
theorem okf78 : okB Tryz.prog (plansIn plTbl) 78 = true := by decide +kernel
theorem okf86 : okB Tryz.prog (plansIn plTbl) 86 = true := by decide +kernel
theorem okf104 : okB Tryz.prog (plansIn plTbl) 104 = true := by decide +kernel
theorem okf106 : okB Tryz.prog (plansIn plTbl) 106 = true := by decide +kernel
theorem okf123 : okB Tryz.prog (plansIn plTbl) 123 = true := by decide +kernel
theorem okf142 : okB Tryz.prog (plansIn plTbl) 142 = true := by decide +kernel
theorem okf175 : okB Tryz.prog (plansIn plTbl) 175 = true := by decide +kernel
theorem ok_q190_21_0 : partOk Tryz.prog 190 21 [] 7 [true, true, true, true, true, true, true, true, true, true, true, true, true, true, true, false, false, false, false, false, false, false] q190_21_0 = true := by decide +kernel
def F_q190_21_0 : PF := (7, [true, true, true, true, true, true, true, true, true, true, true, true, true, true, true, false, false, false, false, false, false, false], q190_21_0) :: []
theorem all_q190_21_0 : AllOk Tryz.prog 190 21 F_q190_21_0 := allOk_cons allOk_nil ok_q190_21_0
theorem ok_q190_21_1 : partOk Tryz.prog 190 21 F_q190_21_0 8 [true, true, true, true, true, true, true, true, true, true, true, true, true, true, false, false, false, false, false, false, false, false] q190_21_1 = true := by decide +kernel
def F_q190_21_1 : PF := (8, [true, true, true, true, true, true, true, true, true, true, true, true, true, true, false, false, false, false, false, false, false, false], q190_21_1) :: F_q190_21_0
theorem all_q190_21_1 : AllOk Tryz.prog 190 21 F_q190_21_1 := allOk_cons all_q190_21_0 ok_q190_21_1
theorem ok_q190_21_2 : partOk Tryz.prog 190 21 F_q190_21_1 8 [true, true, true, true, true, true, true, true, true, true, true, true, false, true, true, false, false, false, false, false, false, false] q190_21_2 = true := by decide +kernel
def F_q190_21_2 : PF := (8, [true, true, true, true, true, true, true, true, true, true, true, true, false, true, true, false, false, false, false, false, false, false], q190_21_2) :: F_q190_21_1
theorem all_q190_21_2 : AllOk Tryz.prog 190 21 F_q190_21_2 := allOk_cons all_q190_21_1 ok_q190_21_2
theorem ok_q190_21_3 : partOk Tryz.prog 190 21 F_q190_21_2 8 [true, true, true, true, true, true, true, true, false, true, true, true, true, true, true, false, false, false, false, false, false, false] q190_21_3 = true := by decide +kernel
def F_q190_21_3 : PF := (8, [true, true, true, true, true, true, true, true, false, true, true, true, true, true, true, false, false, false, false, false, false, false], q190_21_3) :: F_q190_21_2
theorem all_q190_21_3 : AllOk Tryz.prog 190 21 F_q190_21_3 := allOk_cons all_q190_21_2 ok_q190_21_3
theorem ok_q190_21_4 : partOk Tryz.prog 190 21 F_q190_21_3 9 [true, true, true, true, true, true, true, true, false, true, true, true, true, true, false, false, false, false, false, false, false, false] q190_21_4 = true := by decide +kernel
def F_q190_21_4 : PF := (9, [true, true, true, true, true, true, true, true, false, true, true, true, true, true, false, false, false, false, false, false, false, false], q190_21_4) :: F_q190_21_3
theorem all_q190_21_4 : AllOk Tryz.prog 190 21 F_q190_21_4 := allOk_cons all_q190_21_3 ok_q190_21_4
theorem ok_q190_21_5 : partOk Tryz.prog 190 21 F_q190_21_4 9 [true, true, true, true, true, true, true, true, false, true, true, true, false, true, true, false, false, false, false, false, false, false] q190_21_5 = true := by decide +kernel
def F_q190_21_5 : PF := (9, [true, true, true, true, true, true, true, true, false, true, true, true, false, true, true, false, false, false, false, false, false, false], q190_21_5) :: F_q190_21_4
theorem all_q190_21_5 : AllOk Tryz.prog 190 21 F_q190_21_5 := allOk_cons all_q190_21_4 ok_q190_21_5
theorem ok_q190_21_6 : partOk Tryz.prog 190 21 F_q190_21_5 10 [true, true, true, true, true, true, true, true, false, true, true, true, false, true, false, false, false, false, false, false, false, false] q190_21_6 = true := by decide +kernel
def F_q190_21_6 : PF := (10, [true, true, true, true, true, true, true, true, false, true, true, true, false, true, false, false, false, false, false, false, false, false], q190_21_6) :: F_q190_21_5
theorem all_q190_21_6 : AllOk Tryz.prog 190 21 F_q190_21_6 := allOk_cons all_q190_21_5 ok_q190_21_6
theorem ok_q190_21_7 : partOk Tryz.prog 190 21 F_q190_21_6 9 [true, true, true, true, true, true, true, false, false, true, true, true, true, true, true, false, false, false, false, false, false, false] q190_21_7 = true := by decide +kernel
def F_q190_21_7 : PF := (9, [true, true, true, true, true, true, true, false, false, true, true, true, true, true, true, false, false, false, false, false, false, false], q190_21_7) :: F_q190_21_6
theorem all_q190_21_7 : AllOk Tryz.prog 190 21 F_q190_21_7 := allOk_cons all_q190_21_6 ok_q190_21_7
theorem ok_q190_21_8 : partOk Tryz.prog 190 21 F_q190_21_7 10 [true, true, true, true, true, true, true, false, false, true, true, true, true, true, false, false, false, false, false, false, false, false] q190_21_8 = true := by decide +kernel
def F_q190_21_8 : PF := (10, [true, true, true, true, true, true, true, false, false, true, true, true, true, true, false, false, false, false, false, false, false, false], q190_21_8) :: F_q190_21_7
theorem all_q190_21_8 : AllOk Tryz.prog 190 21 F_q190_21_8 := allOk_cons all_q190_21_7 ok_q190_21_8
theorem ok_q190_21_9 : partOk Tryz.prog 190 21 F_q190_21_8 10 [true, true, true, true, true, true, true, false, false, true, true, true, false, true, true, false, false, false, false, false, false, false] q190_21_9 = true := by decide +kernel
def F_q190_21_9 : PF := (10, [true, true, true, true, true, true, true, false, false, true, true, true, false, true, true, false, false, false, false, false, false, false], q190_21_9) :: F_q190_21_8
theorem all_q190_21_9 : AllOk Tryz.prog 190 21 F_q190_21_9 := allOk_cons all_q190_21_8 ok_q190_21_9
theorem ok_q190_21_10 : partOk Tryz.prog 190 21 F_q190_21_9 9 [true, true, true, true, true, false, true, true, false, true, true, true, true, true, true, false, false, false, false, false, false, false] q190_21_10 = true := by decide +kernel
def F_q190_21_10 : PF := (9, [true, true, true, true, true, false, true, true, false, true, true, true, true, true, true, false, false, false, false, false, false, false], q190_21_10) :: F_q190_21_9
theorem all_q190_21_10 : AllOk Tryz.prog 190 21 F_q190_21_10 := allOk_cons all_q190_21_9 ok_q190_21_10
theorem ok_q190_21_11 : partOk Tryz.prog 190 21 F_q190_21_10 10 [true, true, true, true, true, false, true, true, false, true, true, true, true, true, false, false, false, false, false, false, false, false] q190_21_11 = true := by decide +kernel
def F_q190_21_11 : PF := (10, [true, true, true, true, true, false, true, true, false, true, true, true, true, true, false, false, false, false, false, false, false, false], q190_21_11) :: F_q190_21_10
theorem all_q190_21_11 : AllOk Tryz.prog 190 21 F_q190_21_11 := allOk_cons all_q190_21_10 ok_q190_21_11
theorem ok_q190_21_12 : partOk Tryz.prog 190 21 F_q190_21_11 10 [true, true, true, true, true, false, true, true, false, true, true, true, false, true, true, false, false, false, false, false, false, false] q190_21_12 = true := by decide +kernel
def F_q190_21_12 : PF := (10, [true, true, true, true, true, false, true, true, false, true, true, true, false, true, true, false, false, false, false, false, false, false], q190_21_12) :: F_q190_21_11
theorem all_q190_21_12 : AllOk Tryz.prog 190 21 F_q190_21_12 := allOk_cons all_q190_21_11 ok_q190_21_12
theorem ok_q190_21_13 : partOk Tryz.prog 190 21 F_q190_21_12 10 [true, true, true, true, true, false, true, false, false, true, true, true, true, true, true, false, false, false, false, false, false, false] q190_21_13 = true := by decide +kernel
def F_q190_21_13 : PF := (10, [true, true, true, true, true, false, true, false, false, true, true, true, true, true, true, false, false, false, false, false, false, false], q190_21_13) :: F_q190_21_12
theorem all_q190_21_13 : AllOk Tryz.prog 190 21 F_q190_21_13 := allOk_cons all_q190_21_12 ok_q190_21_13
def pw190_21 : Plan := (.pure 0 (.pure 1 (.pure 2 (.pure 3 (.pure 4 (.pure 6 (.pure 9 (.pure 10 (.pure 11 (.pure 13 (.alt (.eff 5 (.alt (.eff 7 q190_21_6) (.alt (.eff 12 q190_21_8) (.eff 14 q190_21_9)))) (.alt (.eff 7 (.alt (.eff 5 q190_21_6) (.alt (.eff 12 q190_21_11) (.eff 14 q190_21_12)))) (.alt (.eff 12 (.alt (.eff 5 q190_21_8) (.alt (.eff 7 q190_21_11) (.eff 14 q190_21_13)))) (.eff 14 (.alt (.eff 5 q190_21_9) (.alt (.eff 7 q190_21_12) (.eff 12 q190_21_13)))))))))))))))))
theorem okw190_21 : wholeOk Tryz.prog 190 21 F_q190_21_13 pw190_21 = true := by decide +kernel
theorem ok_q190_22_0 : partOk Tryz.prog 190 22 [] 2 [true, true, true, true, true, true, true, true, true, true, true, true, true, true, true, true, true, false, false] q190_22_0 = true := by decide +kernel
def F_q190_22_0 : PF := (2, [true, true, true, true, true, true, true, true, true, true, true, true, true, true, true, true, true, false, false], q190_22_0) :: []
theorem all_q190_22_0 : AllOk Tryz.prog 190 22 F_q190_22_0 := allOk_cons allOk_nil ok_q190_22_0
theorem ok_q190_22_1 : partOk Tryz.prog 190 22 F_q190_22_0 3 [true, true, true, true, true, true, true, true, true, true, true, true, true, true, true, true, false, false, false] q190_22_1 = true := by decide +kernel
def F_q190_22_1 : PF := (3, [true, true, true, true, true, true, true, true, true, true, true, true, true, true, true, true, false, false, false], q190_22_1) :: F_q190_22_0
theorem all_q190_22_1 : AllOk Tryz.prog 190 22 F_q190_22_1 := allOk_cons all_q190_22_0 ok_q190_22_1
theorem ok_q190_22_2 : partOk Tryz.prog 190 22 F_q190_22_1 3 [true, true, true, true, true, true, true, true, true, true, true, true, true, true, false, true, true, false, false] q190_22_2 = true := by decide +kernel
def F_q190_22_2 : PF := (3, [true, true, true, true, true, true, true, true, true, true, true, true, true, true, false, true, true, false, false], q190_22_2) :: F_q190_22_1
theorem all_q190_22_2 : AllOk Tryz.prog 190 22 F_q190_22_2 := allOk_cons all_q190_22_1 ok_q190_22_2
theorem ok_q190_22_3 : partOk Tryz.prog 190 22 F_q190_22_2 4 [true, true, true, true, true, true, true, true, true, true, true, true, true, true, false, true, false, false, false] q190_22_3 = true := by decide +kernel
def F_q190_22_3 : PF := (4, [true, true, true, true, true, true, true, true, true, true, true, true, true, true, false, true, false, false, false], q190_22_3) :: F_q190_22_2
theorem all_q190_22_3 : AllOk Tryz.prog 190 22 F_q190_22_3 := allOk_cons all_q190_22_2 ok_q190_22_3
theorem ok_q190_22_4 : partOk Tryz.prog 190 22 F_q190_22_3 5 [true, true, true, true, true, true, true, true, true, true, true, true, true, false, true, false, false, false, false] q190_22_4 = true := by decide +kernel
def F_q190_22_4 : PF := (5, [true, true, true, true, true, true, true, true, true, true, true, true, true, false, true, false, false, false, false], q190_22_4) :: F_q190_22_3
theorem all_q190_22_4 : AllOk Tryz.prog 190 22 F_q190_22_4 := allOk_cons all_q190_22_3 ok_q190_22_4
theorem ok_q190_22_5 : partOk Tryz.prog 190 22 F_q190_22_4 4 [true, true, true, true, true, true, true, true, true, true, true, false, true, true, true, true, false, false, false] q190_22_5 = true := by decide +kernel
def F_q190_22_5 : PF := (4, [true, true, true, true, true, true, true, true, true, true, true, false, true, true, true, true, false, false, false], q190_22_5) :: F_q190_22_4
theorem all_q190_22_5 : AllOk Tryz.prog 190 22 F_q190_22_5 := allOk_cons all_q190_22_4 ok_q190_22_5
def pw190_22 : Plan := (.pure 0 (.pure 1 (.pure 2 (.pure 4 (.pure 6 (.pure 7 (.pure 8 (.pure 10 (.read 3 (.read 5 (.read 9 (.read 12 (.alt (.eff 11 (.alt (.eff 13 (.pure 15 q190_22_3)) (.eff 14 q190_22_4))) (.alt (.eff 13 (.pure 15 (.alt (.eff 11 q190_22_3) (.alt (.eff 14 q190_22_5) (.eff 16 (.read 11 q190_22_2)))))) (.eff 14 (.alt (.eff 11 q190_22_4) (.eff 13 (.pure 15 q190_22_5))))))))))))))))))
theorem okw190_22 : wholeOk Tryz.prog 190 22 F_q190_22_5 pw190_22 = true := by decide +kernel
theorem okf190 : okB Tryz.prog (plansIn plTbl) 190 = true := by
  refine okB_of (skip := [21, 22]) (by decide +kernel) ?_
  intro id hid ops ho
  simp only [List.mem_cons, List.not_mem_nil, or_false] at hid
  rcases hid with rfl | rfl
  · exact ⟨pw190_21, rfl, whole_ok all_q190_21_13 okw190_21 ops ho⟩
  · exact ⟨pw190_22, rfl, whole_ok all_q190_22_5 okw190_22 ops ho⟩
theorem okf192 : okB Tryz.prog (plansIn plTbl) 192 = true := by decide +kernel
theorem okf194 : okB Tryz.prog (plansIn plTbl) 194 = true := by decide +kernel
theorem okf244 : okB Tryz.prog (plansIn plTbl) 244 = true := by decide +kernel
theorem okf259 : okB Tryz.prog (plansIn plTbl) 259 = true := by decide +kernel
theorem okf262 : okB Tryz.prog (plansIn plTbl) 262 = true := by decide +kernel
theorem okf266 : okB Tryz.prog (plansIn plTbl) 266 = true := by decide +kernel
theorem okf267 : okB Tryz.prog (plansIn plTbl) 267 = true := by decide +kernel
theorem okf271 : okB Tryz.prog (plansIn plTbl) 271 = true := by decide +kernel
theorem okf285 : okB Tryz.prog (plansIn plTbl) 285 = true := by decide +kernel
theorem okf288 : okB Tryz.prog (plansIn plTbl) 288 = true := by decide +kernel
theorem okf295 : okB Tryz.prog (plansIn plTbl) 295 = true := by decide +kernel
theorem okf298 : okB Tryz.prog (plansIn plTbl) 298 = true := by decide +kernel
theorem okf350 : okB Tryz.prog (plansIn plTbl) 350 = true := by decide +kernel
def plKeys : List Nat := [11, 13, 14, 15, 16, 17, 27, 28, 30, 31, 56, 65, 67, 70, 71, 73, 76, 78, 86, 104, 106, 123, 142, 175, 190, 192, 194, 244, 259, 262, 266, 267, 271, 285, 288, 295, 298, 350]
theorem ok_keys : ∀ f, memN f plKeys = true → okB Tryz.prog (plansIn plTbl) f = true := (okB_cons okf11 (okB_cons okf13 (okB_cons okf14 (okB_cons okf15 (okB_cons okf16 (okB_cons okf17 (okB_cons okf27 (okB_cons okf28 (okB_cons okf30 (okB_cons okf31 (okB_cons okf56 (okB_cons okf65 (okB_cons okf67 (okB_cons okf70 (okB_cons okf71 (okB_cons okf73 (okB_cons okf76 (okB_cons okf78 (okB_cons okf86 (okB_cons okf104 (okB_cons okf106 (okB_cons okf123 (okB_cons okf142 (okB_cons okf175 (okB_cons okf190 (okB_cons okf192 (okB_cons okf194 (okB_cons okf244 (okB_cons okf259 (okB_cons okf262 (okB_cons okf266 (okB_cons okf267 (okB_cons okf271 (okB_cons okf285 (okB_cons okf288 (okB_cons okf295 (okB_cons okf298 (okB_cons okf350 okB_nil))))))))))))))))))))))))))))))))))))))
theorem keys_all : keysIn plTbl plKeys 480 = true := by decide +kernel
theorem plans_ok : OkAll Tryz.prog (plansIn plTbl) := okB_all ok_keys keys_all (by decide +kernel)
theorem base_ok (l : List Value) (h : ∀ v ∈ l, v.oneCell' = true) (w : World) : @RunBase (sigOf (plansIn plTbl) l h w) Tryz.prog (plansIn plTbl) := RunBase.of mixed (by decide +kernel) plans_ok l h w
end Go.Proofs.YtbjomeonjlialaaGreat.V
