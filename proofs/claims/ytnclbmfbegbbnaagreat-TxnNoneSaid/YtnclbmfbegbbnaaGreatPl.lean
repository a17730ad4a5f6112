/-
  The plans of the regions that draw their order, printed by a program; they go with every order. No condition.
-/
import Derived.Test.YtnclbmfbegbbnaaGreatFb
import Derived.Test.YtnclbmfbegbbnaaGreatFacts
import Derived.Test.YtnclbmfbegbbnaaGreatFq
namespace Go.Proofs.YtnclbmfbegbbnaaGreat.V
def pl6 : List (Nat × Plan) := [(6, (.pure 0 (.pure 1 (.pure 2 (.pure 4 (.pure 5 (.pure 6 (.read 3 (.read 7 (.eff 8 (.pure 9 (.eff 10 (.eff 11 .done)))))))))))))]
def q7_17_0 : Plan := (.eff 20 .done)
def q7_17_1 : Plan := (.eff 18 (.pure 19 q7_17_0))
def q7_17_2 : Plan := (.eff 17 q7_17_1)
def q7_17_3 : Plan := (.alt (.eff 14 q7_17_1) (.eff 18 (.pure 19 (.read 14 q7_17_0))))
def q7_17_4 : Plan := (.alt (.eff 14 q7_17_2) (.eff 17 q7_17_3))
def q7_17_5 : Plan := (.eff 12 (.pure 15 (.pure 16 q7_17_2)))
def q7_17_6 : Plan := (.alt (.eff 12 (.pure 15 (.pure 16 q7_17_4))) (.eff 14 q7_17_5))
def q7_17_7 : Plan := (.eff 11 q7_17_5)
def q7_17_8 : Plan := (.alt (.eff 11 q7_17_6) (.eff 14 q7_17_7))
def q7_17_9 : Plan := (.eff 9 q7_17_5)
def q7_17_10 : Plan := (.alt (.eff 9 q7_17_6) (.eff 14 q7_17_9))
def q7_17_11 : Plan := (.alt (.eff 9 q7_17_7) (.eff 11 q7_17_9))
def q7_17_12 : Plan := (.alt (.eff 5 q7_17_2) (.eff 17 (.read 5 q7_17_1)))
def q7_17_13 : Plan := (.alt (.eff 5 q7_17_5) (.eff 12 (.pure 15 (.pure 16 q7_17_12))))
def q7_17_14 : Plan := (.alt (.eff 5 q7_17_6) (.alt (.eff 12 (.pure 15 (.pure 16 (.alt (.eff 5 q7_17_4) (.alt (.eff 14 q7_17_12) (.eff 17 (.read 5 q7_17_3))))))) (.eff 14 q7_17_13)))
def q7_17_15 : Plan := (.alt (.eff 5 q7_17_7) (.eff 11 q7_17_13))
def q7_17_16 : Plan := (.alt (.eff 5 q7_17_9) (.eff 9 q7_17_13))
def pl7 : List (Nat × Plan) := [(12, (.pure 0 (.pure 1 (.pure 2 (.read 3 (.read 4 (.read 5 (.pure 6 (.pure 7 (.pure 8 (.pure 9 (.pure 10 .done)))))))))))),
  (15, (.pure 0 (.pure 1 (.pure 2 (.pure 4 (.read 3 (.read 5 (.alt (.eff 6 (.eff 7 (.eff 8 .done))) (.eff 7 (.eff 6 (.eff 8 .done))))))))))),
  (17, (.pure 0 (.pure 1 (.pure 2 (.pure 3 (.pure 6 (.pure 7 (.pure 8 (.pure 13 (.read 4 (.read 10 (.alt (.eff 5 (.alt (.eff 9 q7_17_8) (.alt (.eff 11 q7_17_10) (.eff 14 q7_17_11)))) (.alt (.eff 9 (.alt (.eff 5 q7_17_8) (.alt (.eff 11 q7_17_14) (.eff 14 q7_17_15)))) (.alt (.eff 11 (.alt (.eff 5 q7_17_10) (.alt (.eff 9 q7_17_14) (.eff 14 q7_17_16)))) (.eff 14 (.alt (.eff 5 q7_17_11) (.alt (.eff 9 q7_17_15) (.eff 11 q7_17_16))))))))))))))))))]
def pl8 : List (Nat × Plan) := [(3, (.pure 0 (.pure 1 (.pure 2 (.pure 4 (.read 3 (.read 5 (.eff 6 (.pure 7 (.pure 8 (.eff 9 (.pure 10 .done))))))))))))]
def pl29 : List (Nat × Plan) := [(6, (.pure 0 (.pure 2 (.pure 3 (.pure 5 (.read 1 (.read 4 (.read 6 (.alt (.eff 7 (.pure 8 (.eff 9 (.eff 10 .done)))) (.eff 9 (.eff 7 (.pure 8 (.eff 10 .done))))))))))))),
  (9, (.pure 0 (.pure 1 (.pure 2 (.pure 4 (.pure 5 (.pure 6 (.read 3 (.read 7 (.eff 8 .done)))))))))),
  (10, (.pure 0 (.pure 1 (.pure 2 (.pure 4 (.pure 5 (.pure 6 (.pure 10 (.read 3 (.read 7 (.eff 8 (.pure 9 .done))))))))))))]
def pl31 : List (Nat × Plan) := [(3, (.pure 0 (.pure 3 (.alt (.eff 1 (.alt (.eff 2 (.eff 4 (.pure 6 (.eff 5 (.eff 7 (.pure 8 (.eff 9 .done))))))) (.eff 4 (.eff 2 (.pure 6 (.eff 5 (.eff 7 (.pure 8 (.eff 9 .done))))))))) (.eff 4 (.eff 1 (.eff 2 (.pure 6 (.eff 5 (.eff 7 (.pure 8 (.eff 9 .done)))))))))))),
  (4, (.pure 0 (.pure 1 (.pure 2 (.pure 3 (.read 5 (.alt (.eff 4 (.eff 6 (.eff 7 (.pure 8 (.pure 9 (.eff 10 .done)))))) (.eff 6 (.eff 4 (.eff 7 (.pure 8 (.pure 9 (.eff 10 .done)))))))))))))]
def pl32 : List (Nat × Plan) := [(9, (.pure 0 (.pure 1 (.pure 2 (.pure 5 (.pure 6 (.pure 7 (.pure 9 (.read 8 (.read 10 (.eff 3 (.pure 4 (.pure 11 .done))))))))))))),
  (19, (.pure 0 (.pure 2 (.read 1 (.pure 3 .done)))))]
def q38_4_0 : Plan := (.eff 14 (.pure 15 (.eff 16 (.pure 17 (.eff 18 (.pure 19 (.eff 20 .done)))))))
def q38_4_1 : Plan := (.eff 9 q38_4_0)
def q38_4_2 : Plan := (.alt (.eff 9 (.eff 13 q38_4_0)) (.eff 13 q38_4_1))
def q38_4_3 : Plan := (.eff 8 q38_4_1)
def q38_4_4 : Plan := (.eff 4 q38_4_1)
def q38_4_5 : Plan := (.alt (.eff 4 q38_4_2) (.eff 13 q38_4_4))
def q38_4_6 : Plan := (.alt (.eff 4 q38_4_3) (.eff 8 q38_4_4))
def q38_4_7 : Plan := (.eff 3 q38_4_4)
def q38_5_0 : Plan := (.eff 14 (.pure 15 (.eff 16 (.pure 17 (.eff 18 (.pure 19 (.eff 20 .done)))))))
def q38_5_1 : Plan := (.eff 9 q38_5_0)
def q38_5_2 : Plan := (.alt (.eff 9 (.eff 13 q38_5_0)) (.eff 13 q38_5_1))
def q38_5_3 : Plan := (.eff 8 q38_5_1)
def q38_5_4 : Plan := (.eff 4 q38_5_1)
def q38_5_5 : Plan := (.alt (.eff 4 q38_5_2) (.eff 13 q38_5_4))
def q38_5_6 : Plan := (.alt (.eff 4 q38_5_3) (.eff 8 q38_5_4))
def q38_5_7 : Plan := (.eff 3 q38_5_4)
def pl38 : List (Nat × Plan) := [(4, (.pure 0 (.pure 1 (.pure 2 (.pure 5 (.pure 6 (.pure 7 (.pure 10 (.pure 11 (.pure 12 (.alt (.eff 3 (.alt (.eff 4 (.alt (.eff 8 q38_4_2) (.eff 13 q38_4_3))) (.alt (.eff 8 q38_4_5) (.eff 13 q38_4_6)))) (.alt (.eff 8 (.alt (.eff 3 q38_4_5) (.eff 13 q38_4_7))) (.eff 13 (.alt (.eff 3 q38_4_6) (.eff 8 q38_4_7))))))))))))))),
  (5, (.pure 0 (.pure 1 (.pure 2 (.pure 5 (.pure 6 (.pure 7 (.pure 10 (.pure 11 (.pure 12 (.alt (.eff 3 (.alt (.eff 4 (.alt (.eff 8 q38_5_2) (.eff 13 q38_5_3))) (.alt (.eff 8 q38_5_5) (.eff 13 q38_5_6)))) (.alt (.eff 8 (.alt (.eff 3 q38_5_5) (.eff 13 q38_5_7))) (.eff 13 (.alt (.eff 3 q38_5_6) (.eff 8 q38_5_7)))))))))))))))]
def pl42 : List (Nat × Plan) := [(3, (.read 0 (.eff 1 (.eff 2 (.pure 3 (.eff 4 (.pure 5 .done)))))))]
def pl46 : List (Nat × Plan) := [(5, (.pure 0 (.pure 1 (.pure 2 (.pure 3 (.pure 5 (.read 4 (.read 7 (.eff 6 (.eff 8 (.pure 9 .done))))))))))),
  (9, (.pure 0 (.pure 1 (.pure 2 (.pure 5 (.pure 7 (.read 3 (.read 6 (.read 8 (.eff 4 (.eff 9 (.pure 10 (.pure 11 (.pure 12 (.pure 13 (.pure 14 .done))))))))))))))))]
def pl50 : List (Nat × Plan) := [(1, (.pure 0 (.pure 1 (.pure 2 (.pure 4 (.read 3 (.read 5 (.eff 6 (.pure 7 (.pure 8 (.pure 9 (.pure 10 (.pure 11 .done)))))))))))))]
def pl57 : List (Nat × Plan) := [(3, (.pure 0 (.pure 1 (.pure 2 (.pure 5 (.pure 6 (.pure 7 (.pure 10 (.pure 11 (.pure 12 (.pure 15 (.pure 16 (.pure 17 (.pure 20 (.pure 21 (.pure 22 (.pure 25 (.pure 26 (.pure 27 (.read 3 (.read 8 (.read 13 (.read 18 (.read 23 (.read 28 (.eff 4 (.eff 9 (.eff 14 (.eff 19 (.eff 24 (.eff 29 (.pure 30 (.eff 31 (.pure 32 .done)))))))))))))))))))))))))))))))))),
  (7, (.pure 0 (.pure 1 (.pure 2 (.pure 3 (.read 5 (.alt (.eff 4 (.eff 6 (.eff 7 (.eff 8 (.pure 9 (.pure 10 (.eff 11 .done))))))) (.eff 6 (.alt (.eff 4 (.eff 7 (.eff 8 (.pure 9 (.pure 10 (.eff 11 .done)))))) (.eff 7 (.eff 4 (.eff 8 (.pure 9 (.pure 10 (.eff 11 .done)))))))))))))))]
def pl58 : List (Nat × Plan) := [(3, (.pure 0 (.pure 1 (.pure 2 (.pure 5 (.pure 6 (.pure 7 (.pure 11 (.pure 12 (.pure 13 (.pure 15 (.pure 16 (.pure 17 (.read 3 (.read 8 (.read 14 (.read 18 (.alt (.eff 4 (.alt (.eff 9 (.eff 10 (.pure 19 (.eff 20 (.pure 21 .done))))) (.eff 10 (.eff 9 (.pure 19 (.eff 20 (.pure 21 .done))))))) (.alt (.eff 9 (.alt (.eff 4 (.eff 10 (.pure 19 (.eff 20 (.pure 21 .done))))) (.eff 10 (.eff 4 (.pure 19 (.eff 20 (.pure 21 .done))))))) (.eff 10 (.alt (.eff 4 (.eff 9 (.pure 19 (.eff 20 (.pure 21 .done))))) (.eff 9 (.eff 4 (.pure 19 (.eff 20 (.pure 21 .done)))))))))))))))))))))))))),
  (7, (.pure 0 (.pure 1 (.pure 2 (.pure 4 (.read 3 (.read 5 (.eff 6 .done)))))))),
  (11, (.pure 0 (.pure 1 (.pure 2 (.pure 4 (.pure 5 (.read 3 (.eff 6 (.eff 7 .done)))))))))]
def pl60 : List (Nat × Plan) := [(3, (.pure 0 (.pure 1 (.pure 2 (.pure 4 (.pure 5 (.pure 6 (.pure 8 (.pure 9 (.pure 10 (.read 3 (.read 7 (.read 11 (.eff 12 (.pure 13 (.eff 14 (.pure 15 .done))))))))))))))))),
  (7, (.pure 0 (.pure 1 (.pure 2 (.pure 4 (.pure 5 (.pure 6 (.pure 7 (.pure 9 (.pure 10 (.pure 11 (.read 3 (.read 8 (.read 12 (.eff 13 (.pure 14 (.eff 15 (.eff 16 .done))))))))))))))))))]
def pl61 : List (Nat × Plan) := [(3, (.pure 0 (.pure 1 (.pure 2 (.pure 5 (.pure 6 (.pure 7 (.pure 9 (.pure 10 (.pure 11 (.read 3 (.read 8 (.read 12 (.eff 4 (.pure 13 (.eff 14 (.pure 15 .done)))))))))))))))))]
def pl62 : List (Nat × Plan) := [(8, (.pure 0 (.pure 2 (.pure 3 (.pure 4 (.pure 6 (.pure 7 (.pure 8 (.pure 9 (.pure 12 (.pure 13 (.pure 14 (.pure 15 (.pure 19 (.pure 20 (.pure 21 (.read 5 (.read 10 (.read 16 (.read 22 (.alt (.eff 1 (.eff 11 (.eff 17 (.pure 18 (.pure 23 (.eff 24 (.eff 25 (.eff 26 (.pure 27 (.eff 28 .done)))))))))) (.eff 11 (.alt (.eff 1 (.eff 17 (.pure 18 (.pure 23 (.eff 24 (.eff 25 (.eff 26 (.pure 27 (.eff 28 .done))))))))) (.eff 17 (.pure 18 (.pure 23 (.alt (.eff 1 (.eff 24 (.eff 25 (.eff 26 (.pure 27 (.eff 28 .done)))))) (.eff 24 (.alt (.eff 1 (.eff 25 (.eff 26 (.pure 27 (.eff 28 .done))))) (.eff 25 (.eff 1 (.eff 26 (.pure 27 (.eff 28 .done))))))))))))))))))))))))))))))))))]
def pl71 : List (Nat × Plan) := [(6, (.pure 0 (.pure 1 (.pure 2 (.pure 4 (.pure 6 (.pure 8 (.pure 9 (.pure 10 (.pure 11 (.pure 13 (.pure 16 (.pure 17 (.pure 18 (.pure 20 (.pure 21 (.pure 22 (.read 3 (.read 5 (.read 7 (.read 12 (.read 14 (.read 19 (.read 23 (.eff 15 (.eff 24 (.pure 25 (.eff 26 (.pure 27 (.pure 28 (.pure 29 (.pure 30 (.pure 31 .done))))))))))))))))))))))))))))))))),
  (12, (.pure 0 (.pure 1 (.pure 2 (.pure 4 (.pure 5 (.pure 6 (.pure 8 (.read 3 (.read 7 (.eff 9 .done)))))))))))]
def pl72 : List (Nat × Plan) := [(8, (.pure 0 (.pure 1 (.pure 2 (.pure 3 (.pure 5 (.pure 6 (.pure 7 (.pure 8 (.pure 9 (.read 10 (.alt (.eff 4 (.eff 11 (.eff 12 (.eff 13 (.pure 14 (.pure 15 (.eff 16 .done))))))) (.eff 11 (.alt (.eff 4 (.eff 12 (.eff 13 (.pure 14 (.pure 15 (.eff 16 .done)))))) (.eff 12 (.eff 4 (.eff 13 (.pure 14 (.pure 15 (.eff 16 .done))))))))))))))))))))]
def pl73 : List (Nat × Plan) := [(2, (.pure 0 (.pure 1 (.pure 2 (.pure 4 (.pure 6 (.pure 7 (.pure 8 (.pure 10 (.read 3 (.read 5 (.read 9 (.read 11 (.eff 12 (.eff 13 .done)))))))))))))))]
def pl76 : List (Nat × Plan) := [(1, (.pure 0 (.pure 1 (.pure 2 (.pure 4 (.read 3 (.read 5 (.eff 6 (.pure 7 (.pure 8 (.pure 9 (.pure 10 (.pure 11 .done))))))))))))),
  (2, (.pure 0 (.pure 1 (.pure 2 (.pure 4 (.pure 5 (.pure 6 (.pure 7 (.read 3 (.read 8 (.eff 9 .done))))))))))),
  (4, (.pure 0 (.pure 1 (.pure 2 (.pure 4 (.pure 5 (.pure 6 (.read 3 (.read 7 (.eff 8 .done)))))))))),
  (6, (.pure 0 (.pure 1 (.pure 2 (.pure 4 (.pure 5 (.pure 6 (.pure 7 (.read 3 (.read 8 (.eff 9 .done)))))))))))]
def pl77 : List (Nat × Plan) := [(1, (.pure 0 (.pure 1 (.pure 2 (.pure 4 (.pure 5 (.pure 6 (.read 3 (.read 7 (.eff 8 (.pure 9 (.pure 10 (.pure 11 (.pure 12 (.pure 13 .done))))))))))))))),
  (4, (.pure 0 (.pure 1 (.pure 2 (.pure 4 (.pure 6 (.read 3 (.read 5 (.eff 7 .done)))))))))]
def pl83 : List (Nat × Plan) := [(14, (.pure 0 (.pure 1 (.pure 2 (.pure 3 (.read 4 (.pure 5 (.pure 6 (.pure 7 (.pure 8 (.pure 9 (.pure 11 (.pure 12 (.pure 13 (.read 10 (.read 14 (.pure 15 (.pure 16 .done)))))))))))))))))),
  (17, (.pure 0 (.pure 1 (.pure 2 (.pure 4 (.pure 7 (.pure 8 (.pure 9 (.pure 11 (.pure 18 (.read 3 (.pure 5 (.read 6 (.pure 21 (.pure 22 (.read 10 (.pure 12 (.read 13 (.pure 14 (.pure 15 (.pure 16 (.read 17 (.eff 19 (.eff 20 (.pure 23 (.eff 24 .done)))))))))))))))))))))))))),
  (18, (.pure 0 (.pure 1 (.pure 2 (.pure 4 (.pure 7 (.pure 8 (.pure 9 (.pure 11 (.pure 18 (.read 3 (.pure 5 (.read 6 (.pure 21 (.pure 22 (.read 10 (.pure 12 (.read 13 (.pure 14 (.pure 15 (.pure 16 (.read 17 (.eff 19 (.eff 20 (.pure 23 (.eff 24 .done))))))))))))))))))))))))))]
def pl87 : List (Nat × Plan) := [(2, (.pure 0 (.pure 1 (.pure 2 (.pure 4 (.read 3 (.read 5 (.eff 6 .done)))))))),
  (5, (.pure 0 (.pure 1 (.pure 2 (.read 3 (.read 4 (.eff 5 (.eff 6 .done)))))))),
  (6, (.pure 0 (.pure 1 (.pure 2 (.pure 4 (.pure 5 (.pure 6 (.pure 8 (.read 3 (.read 7 (.pure 9 (.read 10 (.eff 11 .done)))))))))))))]
def pl89 : List (Nat × Plan) := [(1, (.pure 0 (.pure 2 (.pure 5 (.pure 7 (.read 1 (.read 3 (.read 6 (.read 8 (.eff 4 (.eff 9 (.eff 10 (.eff 11 (.pure 12 .done))))))))))))))]
def pl95 : List (Nat × Plan) := [(1, (.pure 0 (.pure 1 (.pure 3 (.pure 4 (.pure 5 (.pure 6 (.read 2 (.read 7 (.pure 8 (.pure 9 (.pure 10 (.pure 11 (.eff 12 .done))))))))))))))]
def pl101 : List (Nat × Plan) := [(17, (.pure 0 (.pure 1 (.pure 2 (.pure 3 (.pure 4 (.pure 5 (.pure 6 (.pure 8 (.pure 9 (.pure 10 (.read 7 (.read 11 (.eff 12 (.pure 13 (.pure 14 .done))))))))))))))))]
def pl103 : List (Nat × Plan) := [(3, (.pure 0 (.pure 1 (.pure 2 (.pure 4 (.pure 5 (.pure 6 (.pure 9 (.pure 10 (.pure 11 (.read 3 (.read 7 (.read 12 (.eff 8 (.eff 13 (.pure 14 (.eff 15 (.pure 16 .done))))))))))))))))))]
def pl104 : List (Nat × Plan) := [(3, (.pure 0 (.pure 1 (.pure 2 (.pure 4 (.pure 5 (.pure 6 (.pure 9 (.pure 10 (.pure 11 (.read 3 (.read 7 (.read 12 (.eff 8 (.pure 13 (.eff 14 (.pure 15 .done)))))))))))))))))]
def pl106 : List (Nat × Plan) := [(3, (.pure 0 (.pure 1 (.pure 2 (.pure 5 (.pure 6 (.pure 7 (.read 3 (.read 8 (.eff 4 (.eff 9 (.pure 10 (.eff 11 (.pure 12 .done))))))))))))))]
def pl109 : List (Nat × Plan) := [(1, (.pure 0 (.pure 3 (.alt (.eff 1 (.alt (.eff 2 (.eff 4 (.pure 6 (.eff 5 (.eff 7 (.pure 8 (.eff 9 .done))))))) (.eff 4 (.eff 2 (.pure 6 (.eff 5 (.eff 7 (.pure 8 (.eff 9 .done))))))))) (.eff 4 (.eff 1 (.eff 2 (.pure 6 (.eff 5 (.eff 7 (.pure 8 (.eff 9 .done))))))))))))]
def pl111 : List (Nat × Plan) := [(3, (.pure 0 (.pure 1 (.pure 2 (.pure 4 (.pure 5 (.pure 6 (.pure 8 (.pure 9 (.pure 10 (.pure 13 (.pure 14 (.pure 15 (.pure 18 (.pure 19 (.pure 20 (.pure 23 (.pure 24 (.pure 25 (.read 3 (.read 7 (.read 11 (.read 16 (.read 21 (.read 26 (.eff 12 (.eff 17 (.eff 22 (.pure 27 (.eff 28 (.pure 29 .done)))))))))))))))))))))))))))))))]
def q129_21_0 : Plan := (.eff 15 (.pure 16 (.pure 17 (.eff 18 (.pure 19 (.pure 20 (.eff 21 .done)))))))
def q129_21_1 : Plan := (.eff 14 q129_21_0)
def q129_21_2 : Plan := (.eff 12 q129_21_0)
def q129_21_3 : Plan := (.eff 8 q129_21_0)
def q129_21_4 : Plan := (.alt (.eff 8 q129_21_1) (.eff 14 q129_21_3))
def q129_21_5 : Plan := (.alt (.eff 8 q129_21_2) (.eff 12 q129_21_3))
def q129_21_6 : Plan := (.alt (.eff 8 (.alt (.eff 12 q129_21_1) (.eff 14 q129_21_2))) (.alt (.eff 12 q129_21_4) (.eff 14 q129_21_5)))
def q129_21_7 : Plan := (.eff 7 q129_21_3)
def q129_21_8 : Plan := (.alt (.eff 7 q129_21_4) (.eff 14 q129_21_7))
def q129_21_9 : Plan := (.alt (.eff 7 q129_21_5) (.eff 12 q129_21_7))
def q129_21_10 : Plan := (.eff 5 q129_21_3)
def q129_21_11 : Plan := (.alt (.eff 5 q129_21_4) (.eff 14 q129_21_10))
def q129_21_12 : Plan := (.alt (.eff 5 q129_21_5) (.eff 12 q129_21_10))
def q129_21_13 : Plan := (.alt (.eff 5 q129_21_7) (.eff 7 q129_21_10))
def q129_22_0 : Plan := (.pure 17 (.eff 18 .done))
def q129_22_1 : Plan := (.eff 16 q129_22_0)
def q129_22_2 : Plan := (.read 14 q129_22_0)
def q129_22_3 : Plan := (.alt (.eff 14 q129_22_1) (.eff 16 q129_22_2))
def q129_22_4 : Plan := (.eff 13 (.pure 15 q129_22_1))
def q129_22_5 : Plan := (.alt (.eff 11 q129_22_1) (.eff 16 (.read 11 q129_22_0)))
def pl129 : List (Nat × Plan) := [(20, (.pure 0 (.pure 1 (.pure 2 (.pure 5 (.read 3 (.pure 4 (.read 6 (.pure 7 .done))))))))),
  (21, (.pure 0 (.pure 1 (.pure 2 (.pure 3 (.pure 4 (.pure 6 (.pure 9 (.pure 10 (.pure 11 (.pure 13 (.alt (.eff 5 (.alt (.eff 7 q129_21_6) (.alt (.eff 12 q129_21_8) (.eff 14 q129_21_9)))) (.alt (.eff 7 (.alt (.eff 5 q129_21_6) (.alt (.eff 12 q129_21_11) (.eff 14 q129_21_12)))) (.alt (.eff 12 (.alt (.eff 5 q129_21_8) (.alt (.eff 7 q129_21_11) (.eff 14 q129_21_13)))) (.eff 14 (.alt (.eff 5 q129_21_9) (.alt (.eff 7 q129_21_12) (.eff 12 q129_21_13)))))))))))))))))),
  (22, (.pure 0 (.pure 1 (.pure 2 (.pure 4 (.pure 6 (.pure 7 (.pure 8 (.pure 10 (.read 3 (.read 5 (.read 9 (.read 12 (.alt (.eff 11 (.alt (.eff 13 (.pure 15 q129_22_3)) (.eff 14 q129_22_4))) (.alt (.eff 13 (.pure 15 (.alt (.eff 11 q129_22_3) (.alt (.eff 14 q129_22_5) (.eff 16 (.read 11 q129_22_2)))))) (.eff 14 (.alt (.eff 11 q129_22_4) (.eff 13 (.pure 15 q129_22_5))))))))))))))))))),
  (23, (.pure 0 (.pure 1 (.pure 2 (.pure 4 (.pure 6 (.read 3 (.read 5 (.read 7 (.eff 8 .done)))))))))),
  (24, (.pure 0 (.pure 1 (.pure 2 (.pure 4 (.read 3 (.read 5 (.eff 6 .done))))))))]
def pl131 : List (Nat × Plan) := [(23, (.pure 0 (.pure 1 (.pure 2 (.pure 4 (.pure 5 (.pure 6 (.pure 7 (.pure 9 (.pure 11 (.read 3 (.read 8 (.read 10 (.eff 12 (.eff 13 (.eff 14 .done))))))))))))))))]
def pl133 : List (Nat × Plan) := [(2, (.pure 0 (.pure 1 (.pure 2 (.pure 3 (.pure 4 (.pure 5 (.pure 7 (.pure 8 (.read 6 (.read 9 (.eff 10 (.pure 11 (.pure 12 .done)))))))))))))),
  (4, (.pure 0 (.pure 1 (.pure 2 (.pure 4 (.read 3 (.read 5 (.eff 6 (.pure 7 (.pure 8 (.pure 9 (.pure 10 (.pure 11 .done))))))))))))),
  (6, (.pure 1 (.pure 2 (.pure 3 (.pure 5 (.pure 6 (.read 0 (.read 4 (.read 7 (.eff 8 (.pure 9 (.pure 10 (.pure 11 (.pure 12 (.pure 13 .done)))))))))))))))]
def pl138 : List (Nat × Plan) := [(13, (.pure 0 (.pure 1 (.pure 2 (.pure 3 (.pure 4 (.pure 5 (.pure 7 (.pure 8 (.pure 12 (.pure 13 (.pure 14 (.read 6 (.pure 9 (.pure 10 (.read 11 (.read 15 (.pure 16 (.pure 17 .done))))))))))))))))))),
  (14, (.pure 0 (.pure 1 (.pure 2 (.pure 4 (.pure 5 (.read 3 (.read 6 (.pure 7 (.eff 8 .done)))))))))),
  (15, (.pure 0 (.pure 1 (.pure 2 (.pure 3 (.read 5 (.alt (.eff 4 (.eff 6 (.eff 7 (.pure 8 (.pure 9 (.eff 10 .done)))))) (.eff 6 (.eff 4 (.eff 7 (.pure 8 (.pure 9 (.eff 10 .done)))))))))))))]
def pl142 : List (Nat × Plan) := [(6, (.pure 0 (.pure 1 (.pure 2 (.pure 4 (.pure 7 (.pure 8 (.pure 9 (.pure 10 (.pure 12 (.pure 19 (.read 3 (.pure 5 (.read 6 (.pure 21 (.pure 22 (.read 11 (.pure 13 (.read 14 (.pure 15 (.pure 16 (.pure 17 (.read 18 (.eff 20 (.pure 23 (.eff 24 .done)))))))))))))))))))))))))),
  (7, (.pure 0 (.pure 1 (.pure 2 (.pure 4 (.pure 7 (.pure 8 (.pure 9 (.pure 10 (.pure 12 (.pure 19 (.read 3 (.pure 5 (.read 6 (.pure 21 (.pure 22 (.read 11 (.pure 13 (.read 14 (.pure 15 (.pure 16 (.pure 17 (.read 18 (.eff 20 (.pure 23 (.eff 24 .done))))))))))))))))))))))))))]
def pl152 : List (Nat × Plan) := [(11, (.pure 0 (.pure 1 (.pure 2 (.pure 4 (.pure 7 (.pure 8 (.pure 9 (.read 3 (.pure 5 (.read 6 (.read 10 (.pure 11 (.pure 12 (.eff 13 .done))))))))))))))),
  (24, (.pure 0 (.pure 1 (.pure 2 (.pure 4 (.pure 5 (.read 3 (.eff 6 (.pure 7 (.read 8 (.pure 9 .done))))))))))),
  (25, (.pure 0 (.pure 1 (.pure 2 (.pure 4 (.pure 5 (.pure 6 (.read 3 (.read 7 (.pure 8 .done))))))))))]
def pl154 : List (Nat × Plan) := [(4, (.pure 0 (.pure 1 (.pure 2 (.pure 6 (.pure 7 (.pure 8 (.read 3 (.pure 4 (.pure 5 (.read 9 (.pure 10 (.pure 11 .done))))))))))))),
  (7, (.pure 0 (.pure 1 (.pure 3 (.pure 4 (.pure 5 (.read 6 (.pure 7 (.eff 2 (.pure 8 (.eff 9 .done)))))))))))]
def pl157 : List (Nat × Plan) := [(4, (.pure 0 (.pure 1 (.pure 2 (.pure 4 (.pure 6 (.pure 7 (.pure 8 (.read 3 (.read 5 (.pure 12 (.read 9 (.pure 10 (.pure 11 (.pure 13 .done)))))))))))))))]
def pl158 : List (Nat × Plan) := [(12, (.pure 0 (.pure 1 (.pure 2 (.pure 4 (.pure 5 (.pure 6 (.pure 7 (.pure 9 (.read 3 (.read 8 (.pure 10 (.read 11 (.pure 12 (.eff 13 .done)))))))))))))))]
def pl162 : List (Nat × Plan) := [(5, (.pure 0 (.pure 1 (.pure 2 (.pure 4 (.pure 6 (.read 3 (.read 5 (.read 7 (.pure 8 (.pure 9 (.pure 10 (.eff 11 .done))))))))))))),
  (6, (.pure 0 (.pure 1 (.pure 2 (.pure 3 (.pure 5 (.read 6 (.alt (.eff 4 (.eff 7 (.eff 8 (.pure 9 (.pure 10 (.eff 11 .done)))))) (.eff 7 (.eff 4 (.eff 8 (.pure 9 (.pure 10 (.eff 11 .done))))))))))))))]
def pl163 : List (Nat × Plan) := [(17, (.pure 0 (.pure 1 (.pure 2 (.pure 3 (.pure 4 (.pure 5 (.pure 6 (.pure 7 (.pure 9 (.pure 10 (.pure 11 (.read 8 (.read 12 (.eff 13 (.pure 14 (.pure 15 (.pure 16 .done))))))))))))))))))]
def pl167 : List (Nat × Plan) := [(9, (.pure 0 (.pure 1 (.pure 2 (.pure 4 (.pure 5 (.read 3 (.read 6 (.pure 7 (.pure 8 (.pure 9 .done)))))))))))]
def pl169 : List (Nat × Plan) := [(1, (.pure 0 (.pure 1 (.pure 2 (.pure 3 (.pure 5 (.pure 6 (.read 7 (.alt (.eff 4 (.eff 8 (.eff 9 (.pure 10 (.pure 11 (.eff 12 .done)))))) (.eff 8 (.eff 4 (.eff 9 (.pure 10 (.pure 11 (.eff 12 .done)))))))))))))))]
def pl170 : List (Nat × Plan) := [(3, (.pure 0 (.pure 1 (.pure 2 (.read 3 (.read 4 (.eff 5 (.pure 6 (.pure 7 (.eff 8 .done))))))))))]
def pl172 : List (Nat × Plan) := [(2, (.pure 0 (.pure 1 (.pure 2 (.read 3 (.read 4 (.pure 5 (.pure 6 (.eff 7 .done)))))))))]
def pl173 : List (Nat × Plan) := [(1, (.pure 0 (.pure 1 (.pure 2 (.pure 3 (.pure 5 (.pure 6 (.read 7 (.eff 4 (.eff 8 (.pure 9 (.pure 10 (.eff 11 .done)))))))))))))]
def pl176 : List (Nat × Plan) := [(6, (.pure 0 (.pure 1 (.pure 2 (.pure 4 (.pure 5 (.pure 6 (.read 3 (.read 7 (.pure 8 .done))))))))))]
def pl177 : List (Nat × Plan) := [(4, (.pure 0 (.pure 1 (.pure 2 (.pure 3 (.pure 4 (.pure 5 (.pure 6 (.pure 8 (.pure 9 (.pure 10 (.pure 11 (.read 7 (.read 12 (.eff 13 (.pure 14 .done)))))))))))))))),
  (6, (.pure 0 (.pure 1 (.pure 2 (.pure 3 (.pure 4 (.pure 5 (.pure 6 (.pure 7 (.pure 8 (.pure 10 (.pure 11 (.pure 12 (.read 9 (.read 13 (.pure 14 (.eff 15 (.pure 16 (.eff 17 .done)))))))))))))))))))]
def pl178 : List (Nat × Plan) := [(10, (.pure 0 (.pure 1 (.pure 2 (.pure 3 (.pure 4 (.pure 5 (.pure 6 (.pure 7 (.pure 8 (.pure 9 (.pure 10 (.pure 12 (.pure 13 (.pure 14 (.read 11 (.read 15 (.pure 16 (.eff 17 (.pure 18 (.eff 19 .done)))))))))))))))))))))]
def pl179 : List (Nat × Plan) := [(10, (.pure 0 (.pure 1 (.pure 2 (.pure 3 (.pure 4 (.pure 5 (.pure 6 (.pure 7 (.pure 8 (.pure 9 (.pure 10 (.pure 12 (.pure 13 (.pure 14 (.read 11 (.read 15 (.pure 16 (.eff 17 (.pure 18 (.eff 19 .done)))))))))))))))))))))]
def pl181 : List (Nat × Plan) := [(3, (.pure 0 (.pure 1 (.pure 2 (.pure 3 (.pure 4 (.pure 5 (.pure 6 (.pure 8 (.pure 9 (.pure 10 (.read 7 (.read 11 (.pure 12 (.eff 13 (.pure 14 (.eff 15 .done)))))))))))))))))]
def pl182 : List (Nat × Plan) := [(5, (.pure 0 (.pure 1 (.pure 2 (.pure 3 (.pure 4 (.pure 5 (.pure 6 (.pure 8 (.pure 9 (.pure 10 (.pure 11 (.read 7 (.read 12 (.eff 13 (.pure 14 (.pure 15 .done))))))))))))))))),
  (11, (.pure 0 (.pure 1 (.pure 2 (.pure 3 (.pure 4 (.pure 5 (.pure 6 (.pure 7 (.pure 8 (.pure 10 (.pure 11 (.pure 12 (.read 9 (.read 13 (.pure 14 (.eff 15 (.pure 16 (.eff 17 .done))))))))))))))))))),
  (16, (.pure 0 (.pure 1 (.pure 2 (.pure 4 (.pure 5 (.pure 6 (.pure 7 (.read 3 (.read 8 (.eff 9 (.pure 10 .done)))))))))))),
  (17, (.pure 0 (.pure 1 (.pure 2 (.pure 3 (.pure 4 (.pure 5 (.pure 6 (.pure 7 (.pure 8 (.pure 10 (.pure 11 (.pure 12 (.read 9 (.read 13 (.pure 14 (.eff 15 (.pure 16 (.eff 17 .done))))))))))))))))))),
  (22, (.pure 0 (.pure 1 (.pure 2 (.pure 4 (.pure 5 (.pure 6 (.pure 7 (.read 3 (.read 8 (.eff 9 (.pure 10 .done)))))))))))),
  (23, (.pure 0 (.pure 1 (.pure 2 (.pure 3 (.pure 4 (.pure 5 (.pure 6 (.pure 7 (.pure 8 (.pure 10 (.pure 11 (.pure 12 (.read 9 (.read 13 (.pure 14 (.eff 15 (.pure 16 (.eff 17 .done)))))))))))))))))))]
def pl184 : List (Nat × Plan) := [(1, (.pure 0 (.pure 1 (.pure 2 (.pure 3 (.pure 4 (.pure 5 (.pure 6 (.pure 8 (.pure 9 (.pure 10 (.read 7 (.read 11 (.pure 12 (.eff 13 (.pure 14 (.eff 15 .done))))))))))))))))),
  (3, (.pure 0 (.pure 1 (.pure 2 (.pure 3 (.pure 4 (.pure 5 (.pure 6 (.pure 8 (.pure 9 (.pure 10 (.read 7 (.read 11 (.eff 12 (.pure 13 (.pure 14 .done)))))))))))))))),
  (5, (.pure 0 (.pure 1 (.pure 2 (.pure 3 (.pure 4 (.pure 5 (.pure 6 (.pure 8 (.pure 9 (.pure 10 (.read 7 (.read 11 (.eff 12 (.pure 13 .done))))))))))))))),
  (8, (.pure 0 (.pure 1 (.pure 2 (.pure 3 (.pure 4 (.pure 5 (.pure 6 (.pure 8 (.pure 9 (.pure 10 (.read 7 (.read 11 (.pure 12 (.eff 13 (.pure 14 (.eff 15 .done)))))))))))))))))]
def pl185 : List (Nat × Plan) := [(1, (.pure 0 (.pure 1 (.pure 2 (.pure 3 (.pure 4 (.pure 5 (.pure 6 (.pure 8 (.pure 9 (.pure 10 (.read 7 (.read 11 (.pure 12 (.eff 13 (.pure 14 (.eff 15 .done))))))))))))))))),
  (3, (.pure 0 (.pure 1 (.pure 2 (.pure 3 (.pure 4 (.pure 5 (.pure 6 (.pure 8 (.pure 9 (.pure 10 (.read 7 (.read 11 (.eff 12 (.pure 13 .done))))))))))))))),
  (5, (.pure 0 (.pure 1 (.pure 2 (.pure 3 (.pure 4 (.pure 5 (.pure 6 (.pure 8 (.pure 9 (.pure 10 (.read 7 (.read 11 (.eff 12 (.pure 13 (.pure 14 .done)))))))))))))))),
  (8, (.pure 0 (.pure 1 (.pure 2 (.pure 3 (.pure 4 (.pure 5 (.pure 6 (.pure 8 (.pure 9 (.pure 10 (.read 7 (.read 11 (.pure 12 (.eff 13 (.pure 14 (.eff 15 .done))))))))))))))))),
  (10, (.pure 0 (.pure 1 (.pure 2 (.pure 3 (.pure 4 (.pure 5 (.pure 6 (.pure 8 (.pure 9 (.pure 10 (.read 7 (.read 11 (.pure 12 (.eff 13 (.pure 14 (.eff 15 .done))))))))))))))))),
  (13, (.pure 0 (.pure 1 (.pure 2 (.pure 3 (.pure 4 (.pure 5 (.pure 6 (.pure 8 (.pure 9 (.pure 10 (.read 7 (.read 11 (.eff 12 (.pure 13 .done))))))))))))))),
  (15, (.pure 0 (.pure 1 (.pure 2 (.pure 3 (.pure 4 (.pure 5 (.pure 6 (.pure 8 (.pure 9 (.pure 10 (.read 7 (.read 11 (.eff 12 (.pure 13 (.pure 14 .done)))))))))))))))),
  (18, (.pure 0 (.pure 1 (.pure 2 (.pure 3 (.pure 4 (.pure 5 (.pure 6 (.pure 8 (.pure 9 (.pure 10 (.read 7 (.read 11 (.pure 12 (.eff 13 (.pure 14 (.eff 15 .done))))))))))))))))),
  (21, (.pure 0 (.pure 1 (.pure 2 (.pure 3 (.pure 4 (.pure 5 (.pure 6 (.pure 8 (.pure 9 (.pure 10 (.read 7 (.read 11 (.pure 12 (.eff 13 (.pure 14 (.eff 15 .done)))))))))))))))))]
def pl200 : List (Nat × Plan) := [(6, (.pure 1 (.pure 2 (.pure 3 (.read 0 (.read 4 (.eff 5 .done)))))))]
def pl201 : List (Nat × Plan) := [(17, (.pure 0 (.pure 1 (.pure 2 (.pure 3 (.pure 4 (.pure 5 .done)))))))]
def pl205 : List (Nat × Plan) := [(3, (.pure 0 (.pure 1 (.pure 2 (.pure 3 (.pure 5 (.pure 6 (.pure 7 (.pure 8 (.read 4 (.pure 10 (.read 9 (.pure 11 .done)))))))))))))]
def pl209 : List (Nat × Plan) := [(7, (.pure 0 (.pure 1 (.pure 2 (.pure 4 (.pure 5 (.pure 6 (.pure 7 (.pure 9 (.read 3 (.read 8 (.pure 10 (.read 11 (.pure 12 (.pure 13 (.eff 14 .done)))))))))))))))),
  (9, (.pure 0 (.pure 1 (.pure 2 (.pure 5 (.pure 6 (.pure 7 (.read 3 (.pure 4 (.read 8 (.pure 9 (.pure 10 .done))))))))))))]
def pl210 : List (Nat × Plan) := [(9, (.pure 0 (.pure 1 (.pure 2 (.pure 6 (.pure 7 (.pure 8 (.read 3 (.pure 4 (.pure 5 (.read 9 (.pure 10 (.pure 11 (.pure 12 .done))))))))))))))]
def pl214 : List (Nat × Plan) := [(11, (.pure 0 (.pure 1 (.pure 2 (.pure 4 (.pure 5 (.pure 6 (.read 3 (.read 7 (.pure 8 .done)))))))))),
  (15, (.pure 0 (.pure 1 (.pure 2 (.pure 3 (.pure 7 (.pure 8 (.pure 9 (.alt (.eff 4 (.pure 5 (.read 6 (.pure 12 (.eff 10 (.pure 11 (.pure 13 (.pure 14 (.eff 15 .done))))))))) (.eff 10 (.pure 11 (.eff 4 (.pure 5 (.read 6 (.pure 12 (.pure 13 (.pure 14 (.eff 15 .done)))))))))))))))))),
  (19, (.pure 0 (.pure 1 (.pure 2 (.pure 4 (.pure 5 (.pure 6 (.read 3 (.read 7 (.pure 8 (.pure 9 .done))))))))))),
  (23, (.pure 0 (.pure 1 (.pure 2 (.pure 4 (.pure 5 (.pure 6 (.pure 7 (.pure 9 (.read 3 (.read 8 (.pure 10 (.pure 11 (.eff 12 (.pure 13 (.eff 14 .done))))))))))))))))]
def pl224 : List (Nat × Plan) := [(5, (.pure 0 (.pure 1 (.pure 2 (.pure 3 (.pure 5 (.pure 6 (.pure 7 (.read 8 (.pure 9 (.pure 10 (.read 11 (.eff 4 (.pure 12 (.pure 13 (.pure 14 (.eff 15 .done)))))))))))))))))]
def pl229 : List (Nat × Plan) := [(4, (.pure 0 (.pure 1 (.pure 2 (.pure 3 (.pure 6 (.pure 7 (.pure 8 (.pure 9 (.read 4 (.pure 5 (.read 10 (.pure 11 (.pure 12 (.pure 13 .done))))))))))))))),
  (17, (.pure 0 (.pure 1 (.pure 2 (.pure 3 (.pure 4 (.pure 6 (.pure 7 (.pure 8 (.pure 9 (.read 5 (.read 10 (.pure 11 (.eff 12 .done))))))))))))))]
def pl231 : List (Nat × Plan) := [(3, (.pure 0 (.pure 1 (.pure 2 (.pure 4 (.pure 5 (.pure 6 (.read 3 (.pure 8 (.read 7 (.pure 9 .done)))))))))))]
def pl234 : List (Nat × Plan) := [(1, (.pure 0 (.pure 1 (.pure 2 (.pure 4 (.pure 6 (.pure 7 (.pure 8 (.read 3 (.read 9 (.pure 10 (.pure 11 (.eff 5 (.pure 12 (.pure 13 .done))))))))))))))),
  (2, (.pure 0 (.pure 1 (.pure 2 (.pure 4 (.read 3 (.pure 5 (.read 6 (.pure 7 (.pure 8 (.pure 9 (.pure 10 (.pure 11 (.pure 13 (.pure 14 (.pure 15 (.pure 17 (.pure 26 (.read 12 (.read 16 (.pure 18 (.read 19 (.pure 20 (.pure 21 (.read 22 (.pure 23 (.pure 24 (.read 25 (.pure 27 (.pure 28 .done))))))))))))))))))))))))))))))]
def pl237 : List (Nat × Plan) := [(0, (.pure 0 (.pure 1 (.pure 2 (.pure 4 (.pure 5 (.pure 6 (.pure 7 (.pure 9 (.pure 10 (.pure 11 (.pure 12 (.pure 14 (.pure 17 (.pure 18 (.pure 19 (.pure 21 (.read 3 (.read 8 (.read 13 (.pure 15 (.read 16 (.read 20 (.pure 22 (.read 23 (.pure 24 (.eff 25 (.pure 26 (.eff 27 .done))))))))))))))))))))))))))))),
  (1, (.pure 0 (.pure 1 (.pure 2 (.pure 4 (.pure 5 (.pure 6 (.pure 8 (.pure 12 (.pure 13 (.pure 14 (.pure 16 (.pure 17 (.pure 18 (.pure 20 (.pure 24 (.pure 25 (.read 3 (.read 15 (.read 19 (.pure 21 (.pure 22 (.read 23 (.eff 7 (.pure 9 (.pure 10 (.read 11 (.eff 26 (.pure 27 (.eff 28 (.eff 29 (.pure 30 (.eff 31 .done)))))))))))))))))))))))))))))))))]
def pl241 : List (Nat × Plan) := [(1, (.pure 0 (.pure 1 (.pure 2 (.pure 4 (.pure 6 (.pure 7 (.pure 8 (.read 3 (.read 9 (.pure 10 (.eff 5 (.eff 11 (.pure 12 (.pure 13 (.pure 14 (.pure 15 (.pure 16 .done))))))))))))))))))]
def pl242 : List (Nat × Plan) := [(7, (.pure 0 (.pure 1 (.pure 2 (.pure 4 (.read 3 (.read 5 (.pure 6 (.eff 7 .done)))))))))]
def pl244 : List (Nat × Plan) := [(2, (.pure 0 (.pure 1 (.pure 2 (.pure 4 (.read 3 (.read 5 (.eff 6 .done)))))))),
  (5, (.pure 0 (.pure 1 (.pure 2 (.pure 4 (.read 3 (.read 5 (.eff 6 .done))))))))]
def pl249 : List (Nat × Plan) := [(4, (.pure 0 (.pure 1 (.pure 2 (.pure 3 (.pure 4 (.pure 5 (.pure 6 (.pure 7 (.pure 9 (.pure 10 (.pure 11 (.pure 12 (.read 8 (.read 13 (.eff 14 (.pure 15 (.pure 16 .done)))))))))))))))))),
  (6, (.pure 0 (.pure 1 (.pure 2 (.pure 3 (.pure 4 (.pure 5 (.pure 6 (.pure 7 (.pure 8 (.pure 10 (.pure 11 (.pure 12 (.read 9 (.read 13 (.pure 14 (.eff 15 (.pure 16 (.eff 17 .done)))))))))))))))))))]
def pl250 : List (Nat × Plan) := [(10, (.pure 0 (.pure 1 (.pure 2 (.pure 3 (.pure 4 (.pure 5 (.pure 6 (.pure 7 (.pure 8 (.pure 9 (.pure 10 (.pure 12 (.pure 13 (.pure 14 (.read 11 (.read 15 (.pure 16 (.eff 17 (.pure 18 (.eff 19 .done)))))))))))))))))))))]
def pl251 : List (Nat × Plan) := [(10, (.pure 0 (.pure 1 (.pure 2 (.pure 3 (.pure 4 (.pure 5 (.pure 6 (.pure 7 (.pure 8 (.pure 9 (.pure 10 (.pure 12 (.pure 13 (.pure 14 (.read 11 (.read 15 (.pure 16 (.eff 17 (.pure 18 (.eff 19 .done)))))))))))))))))))))]
def pl253 : List (Nat × Plan) := [(3, (.pure 0 (.pure 1 (.pure 2 (.pure 3 (.pure 4 (.pure 5 (.pure 6 (.pure 8 (.pure 9 (.pure 10 (.read 7 (.read 11 (.pure 12 (.eff 13 (.pure 14 (.eff 15 .done)))))))))))))))))]
def pl254 : List (Nat × Plan) := [(5, (.pure 0 (.pure 1 (.pure 2 (.pure 3 (.pure 4 (.pure 5 (.pure 6 (.pure 7 (.pure 9 (.pure 10 (.pure 11 (.pure 12 (.read 8 (.read 13 (.eff 14 (.pure 15 (.pure 16 (.pure 17 .done))))))))))))))))))),
  (11, (.pure 0 (.pure 1 (.pure 2 (.pure 3 (.pure 4 (.pure 5 (.pure 6 (.pure 7 (.pure 8 (.pure 10 (.pure 11 (.pure 12 (.read 9 (.read 13 (.pure 14 (.eff 15 (.pure 16 (.eff 17 .done))))))))))))))))))),
  (16, (.pure 0 (.pure 1 (.pure 2 (.pure 3 (.pure 5 (.pure 6 (.pure 7 (.pure 8 (.read 4 (.read 9 (.eff 10 (.pure 11 (.pure 12 .done)))))))))))))),
  (17, (.pure 0 (.pure 1 (.pure 2 (.pure 3 (.pure 4 (.pure 5 (.pure 6 (.pure 7 (.pure 8 (.pure 10 (.pure 11 (.pure 12 (.read 9 (.read 13 (.pure 14 (.eff 15 (.pure 16 (.eff 17 .done))))))))))))))))))),
  (22, (.pure 0 (.pure 1 (.pure 2 (.pure 3 (.pure 5 (.pure 6 (.pure 7 (.pure 8 (.read 4 (.read 9 (.eff 10 (.pure 11 (.pure 12 .done)))))))))))))),
  (23, (.pure 0 (.pure 1 (.pure 2 (.pure 3 (.pure 4 (.pure 5 (.pure 6 (.pure 7 (.pure 8 (.pure 10 (.pure 11 (.pure 12 (.read 9 (.read 13 (.pure 14 (.eff 15 (.pure 16 (.eff 17 .done)))))))))))))))))))]
def pl255 : List (Nat × Plan) := [(1, (.pure 0 (.pure 1 (.pure 2 (.pure 3 (.pure 4 (.pure 5 (.pure 6 (.pure 8 (.pure 9 (.pure 10 (.read 7 (.read 11 (.pure 12 (.eff 13 (.pure 14 (.eff 15 .done))))))))))))))))),
  (3, (.pure 0 (.pure 1 (.pure 2 (.pure 3 (.pure 4 (.pure 5 (.pure 6 (.pure 7 (.pure 9 (.pure 10 (.pure 11 (.read 8 (.read 12 (.eff 13 (.pure 14 (.pure 15 (.pure 16 .done)))))))))))))))))),
  (5, (.pure 0 (.pure 1 (.pure 2 (.pure 3 (.pure 4 (.pure 5 (.pure 6 (.pure 7 (.pure 9 (.pure 10 (.pure 11 (.read 8 (.read 12 (.eff 13 (.pure 14 (.pure 15 .done))))))))))))))))),
  (8, (.pure 0 (.pure 1 (.pure 2 (.pure 3 (.pure 4 (.pure 5 (.pure 6 (.pure 8 (.pure 9 (.pure 10 (.read 7 (.read 11 (.pure 12 (.eff 13 (.pure 14 (.eff 15 .done)))))))))))))))))]
def pl256 : List (Nat × Plan) := [(1, (.pure 0 (.pure 1 (.pure 2 (.pure 3 (.pure 4 (.pure 5 (.pure 6 (.pure 8 (.pure 9 (.pure 10 (.read 7 (.read 11 (.pure 12 (.eff 13 (.pure 14 (.eff 15 .done))))))))))))))))),
  (3, (.pure 0 (.pure 1 (.pure 2 (.pure 3 (.pure 4 (.pure 5 (.pure 6 (.pure 7 (.pure 9 (.pure 10 (.pure 11 (.read 8 (.read 12 (.eff 13 (.pure 14 (.pure 15 .done))))))))))))))))),
  (5, (.pure 0 (.pure 1 (.pure 2 (.pure 3 (.pure 4 (.pure 5 (.pure 6 (.pure 7 (.pure 9 (.pure 10 (.pure 11 (.read 8 (.read 12 (.eff 13 (.pure 14 (.pure 15 (.pure 16 .done)))))))))))))))))),
  (8, (.pure 0 (.pure 1 (.pure 2 (.pure 3 (.pure 4 (.pure 5 (.pure 6 (.pure 8 (.pure 9 (.pure 10 (.read 7 (.read 11 (.pure 12 (.eff 13 (.pure 14 (.eff 15 .done))))))))))))))))),
  (10, (.pure 0 (.pure 1 (.pure 2 (.pure 3 (.pure 4 (.pure 5 (.pure 6 (.pure 8 (.pure 9 (.pure 10 (.read 7 (.read 11 (.pure 12 (.eff 13 (.pure 14 (.eff 15 .done))))))))))))))))),
  (13, (.pure 0 (.pure 1 (.pure 2 (.pure 3 (.pure 4 (.pure 5 (.pure 6 (.pure 7 (.pure 9 (.pure 10 (.pure 11 (.read 8 (.read 12 (.eff 13 (.pure 14 (.pure 15 .done))))))))))))))))),
  (15, (.pure 0 (.pure 1 (.pure 2 (.pure 3 (.pure 4 (.pure 5 (.pure 6 (.pure 7 (.pure 9 (.pure 10 (.pure 11 (.read 8 (.read 12 (.eff 13 (.pure 14 (.pure 15 (.pure 16 .done)))))))))))))))))),
  (18, (.pure 0 (.pure 1 (.pure 2 (.pure 3 (.pure 4 (.pure 5 (.pure 6 (.pure 8 (.pure 9 (.pure 10 (.read 7 (.read 11 (.pure 12 (.eff 13 (.pure 14 (.eff 15 .done))))))))))))))))),
  (21, (.pure 0 (.pure 1 (.pure 2 (.pure 3 (.pure 4 (.pure 5 (.pure 6 (.pure 8 (.pure 9 (.pure 10 (.read 7 (.read 11 (.pure 12 (.eff 13 (.pure 14 (.eff 15 .done)))))))))))))))))]
def pl258 : List (Nat × Plan) := [(1, (.pure 0 (.pure 1 (.pure 2 (.pure 4 (.pure 5 (.pure 6 (.pure 8 (.pure 10 (.pure 11 (.pure 12 (.read 3 (.read 7 (.read 13 (.pure 14 (.pure 15 (.eff 9 (.pure 16 (.pure 17 (.pure 18 .done))))))))))))))))))))]
def pl260 : List (Nat × Plan) := [(11, (.pure 0 (.pure 1 (.pure 2 (.pure 3 (.pure 4 (.pure 5 (.pure 6 (.pure 7 (.eff 8 .done)))))))))),
  (15, (.pure 0 (.pure 1 (.pure 2 (.pure 3 (.pure 4 (.pure 5 (.pure 6 (.pure 7 (.eff 8 .done))))))))))]
def pl267 : List (Nat × Plan) := [(3, (.pure 0 (.pure 1 (.pure 2 (.pure 3 (.pure 4 (.pure 5 (.pure 6 (.pure 7 (.pure 8 (.pure 9 (.pure 11 (.pure 12 (.pure 13 (.pure 14 (.pure 15 (.pure 16 (.read 10 (.read 17 (.eff 18 (.pure 19 .done))))))))))))))))))))),
  (5, (.pure 0 (.pure 1 (.pure 2 (.pure 3 (.pure 4 (.pure 6 (.pure 7 (.pure 8 (.pure 9 (.pure 10 (.read 5 (.read 11 (.eff 12 (.pure 13 .done))))))))))))))),
  (6, (.pure 0 (.pure 1 (.pure 2 (.pure 3 (.pure 4 (.pure 5 (.pure 6 (.pure 7 (.pure 8 (.pure 9 (.pure 10 (.pure 11 (.pure 12 (.pure 14 (.pure 15 (.pure 16 (.pure 17 (.pure 18 (.read 13 (.read 19 (.pure 20 (.eff 21 (.pure 22 (.eff 23 .done)))))))))))))))))))))))))]
def pl269 : List (Nat × Plan) := [(1, (.pure 0 (.pure 1 (.pure 3 (.pure 4 (.read 2 (.read 5 (.pure 6 (.pure 7 (.pure 8 (.eff 9 .done))))))))))),
  (2, (.pure 0 (.pure 1 (.pure 3 (.pure 4 (.read 2 (.read 5 (.pure 6 (.pure 7 (.pure 8 (.eff 9 .done))))))))))),
  (3, (.pure 0 (.pure 1 (.pure 3 (.pure 4 (.read 2 (.read 5 (.pure 6 (.pure 7 (.pure 8 (.eff 9 .done)))))))))))]
def pl273 : List (Nat × Plan) := [(3, (.pure 1 (.pure 2 (.pure 3 (.pure 4 (.read 5 (.pure 6 (.alt (.eff 0 (.eff 7 (.eff 8 (.eff 9 .done)))) (.eff 7 (.eff 0 (.eff 8 (.eff 9 .done))))))))))))]
def pl276 : List (Nat × Plan) := [(11, (.pure 0 (.pure 1 (.pure 2 (.pure 3 (.pure 4 (.pure 5 (.pure 6 (.pure 7 (.eff 8 .done)))))))))),
  (15, (.pure 0 (.pure 1 (.pure 2 (.pure 3 (.pure 4 (.pure 5 (.pure 6 (.pure 7 (.eff 8 .done))))))))))]
def pl277 : List (Nat × Plan) := [(5, (.pure 0 (.pure 1 (.pure 2 (.pure 3 (.pure 4 (.pure 5 (.pure 6 .done))))))))]
def q278_4_0 : Plan := (.eff 18 (.pure 19 (.pure 20 (.eff 21 .done))))
def q278_4_1 : Plan := (.eff 10 q278_4_0)
def q278_4_2 : Plan := (.alt (.eff 10 (.eff 14 (.pure 17 q278_4_0))) (.eff 14 (.pure 17 q278_4_1)))
def q278_4_3 : Plan := (.eff 9 q278_4_1)
def q278_4_4 : Plan := (.eff 4 (.pure 7 q278_4_1))
def pl278 : List (Nat × Plan) := [(4, (.pure 0 (.pure 1 (.pure 2 (.pure 3 (.pure 5 (.pure 6 (.pure 8 (.pure 11 (.pure 12 (.pure 13 (.pure 15 (.pure 16 (.alt (.eff 4 (.pure 7 (.alt (.eff 9 q278_4_2) (.eff 14 (.pure 17 q278_4_3))))) (.alt (.eff 9 (.alt (.eff 4 (.pure 7 q278_4_2)) (.eff 14 (.pure 17 q278_4_4)))) (.eff 14 (.pure 17 (.alt (.eff 4 (.pure 7 q278_4_3)) (.eff 9 q278_4_4)))))))))))))))))))]
def pl281 : List (Nat × Plan) := [(17, (.pure 0 (.pure 1 (.pure 2 (.pure 3 (.pure 4 (.pure 5 (.pure 6 (.pure 8 (.pure 9 (.pure 10 (.read 7 (.read 11 (.eff 12 (.pure 13 (.pure 14 .done))))))))))))))))]
def pl283 : List (Nat × Plan) := [(3, (.pure 0 (.pure 1 (.pure 2 (.pure 3 (.pure 5 (.pure 6 (.pure 7 (.pure 8 (.read 4 (.pure 10 (.read 9 (.pure 11 .done)))))))))))))]
def pl287 : List (Nat × Plan) := [(4, (.pure 0 (.pure 1 (.pure 2 (.pure 4 (.pure 5 (.pure 6 (.pure 7 (.read 3 (.read 8 (.pure 9 (.eff 10 .done))))))))))))]
def pl291 : List (Nat × Plan) := [(3, (.pure 0 (.pure 1 (.pure 2 (.pure 4 (.pure 5 (.pure 6 (.pure 8 (.read 3 (.read 7 (.eff 9 (.pure 10 (.pure 11 .done)))))))))))))]
def pl292 : List (Nat × Plan) := [(6, (.pure 0 (.pure 1 (.pure 2 (.pure 4 (.pure 5 (.pure 6 (.pure 7 (.read 3 (.read 8 (.pure 9 .done))))))))))),
  (11, (.pure 0 (.pure 1 (.pure 2 (.pure 4 (.pure 5 (.pure 6 (.pure 7 (.read 3 (.read 8 (.pure 9 .done)))))))))))]
def pl299 : List (Nat × Plan) := [(1, (.pure 0 (.pure 2 (.pure 3 (.pure 4 (.pure 7 (.pure 8 (.pure 9 (.read 1 (.read 5 (.read 10 (.eff 6 (.eff 11 (.pure 12 .done))))))))))))))]
def pl306 : List (Nat × Plan) := [(1, (.pure 0 (.pure 1 (.pure 2 (.pure 4 (.pure 7 (.pure 8 (.pure 9 (.pure 11 (.read 3 (.pure 5 (.read 6 (.read 10 (.pure 12 (.read 13 (.eff 14 (.pure 15 (.pure 16 .done))))))))))))))))))]
def pl313 : List (Nat × Plan) := [(3, (.pure 0 (.pure 1 (.pure 2 (.pure 3 (.pure 4 (.pure 5 (.pure 6 (.pure 7 (.pure 8 (.pure 9 (.pure 10 (.pure 12 (.pure 13 (.pure 14 (.pure 15 (.pure 16 (.pure 17 (.read 11 (.read 18 (.eff 19 (.pure 20 (.pure 21 .done))))))))))))))))))))))),
  (5, (.pure 0 (.pure 1 (.pure 2 (.pure 3 (.pure 4 (.pure 5 (.pure 7 (.pure 8 (.pure 9 (.pure 10 (.pure 11 (.read 6 (.read 12 (.eff 13 (.pure 14 (.pure 15 .done))))))))))))))))),
  (6, (.pure 0 (.pure 1 (.pure 2 (.pure 3 (.pure 4 (.pure 5 (.pure 6 (.pure 7 (.pure 8 (.pure 9 (.pure 10 (.pure 11 (.pure 12 (.pure 14 (.pure 15 (.pure 16 (.pure 17 (.pure 18 (.read 13 (.read 19 (.pure 20 (.eff 21 (.pure 22 (.eff 23 .done)))))))))))))))))))))))))]
def pl324 : List (Nat × Plan) := [(1, (.pure 0 (.pure 1 (.pure 2 (.pure 4 (.pure 5 (.pure 6 (.read 3 (.read 7 (.eff 8 .done))))))))))]
def pl333 : List (Nat × Plan) := [(4, (.pure 0 (.pure 1 (.pure 2 (.pure 3 (.pure 4 (.pure 5 (.pure 6 (.pure 8 (.pure 9 (.pure 10 (.pure 11 (.read 7 (.read 12 (.eff 13 (.pure 14 .done)))))))))))))))),
  (6, (.pure 0 (.pure 1 (.pure 2 (.pure 3 (.pure 4 (.pure 5 (.pure 6 (.pure 7 (.pure 8 (.pure 10 (.pure 11 (.pure 12 (.read 9 (.read 13 (.pure 14 (.eff 15 (.pure 16 (.eff 17 .done)))))))))))))))))))]
def pl334 : List (Nat × Plan) := [(10, (.pure 0 (.pure 1 (.pure 2 (.pure 3 (.pure 4 (.pure 5 (.pure 6 (.pure 7 (.pure 8 (.pure 9 (.pure 10 (.pure 12 (.pure 13 (.pure 14 (.read 11 (.read 15 (.pure 16 (.eff 17 (.pure 18 (.eff 19 .done)))))))))))))))))))))]
def pl335 : List (Nat × Plan) := [(10, (.pure 0 (.pure 1 (.pure 2 (.pure 3 (.pure 4 (.pure 5 (.pure 6 (.pure 7 (.pure 8 (.pure 9 (.pure 10 (.pure 12 (.pure 13 (.pure 14 (.read 11 (.read 15 (.pure 16 (.eff 17 (.pure 18 (.eff 19 .done)))))))))))))))))))))]
def pl337 : List (Nat × Plan) := [(3, (.pure 0 (.pure 1 (.pure 2 (.pure 3 (.pure 4 (.pure 5 (.pure 6 (.pure 8 (.pure 9 (.pure 10 (.read 7 (.read 11 (.pure 12 (.eff 13 (.pure 14 (.eff 15 .done)))))))))))))))))]
def pl338 : List (Nat × Plan) := [(5, (.pure 0 (.pure 1 (.pure 2 (.pure 3 (.pure 4 (.pure 5 (.pure 6 (.pure 8 (.pure 9 (.pure 10 (.pure 11 (.read 7 (.read 12 (.eff 13 (.pure 14 (.pure 15 .done))))))))))))))))),
  (11, (.pure 0 (.pure 1 (.pure 2 (.pure 3 (.pure 4 (.pure 5 (.pure 6 (.pure 7 (.pure 8 (.pure 10 (.pure 11 (.pure 12 (.read 9 (.read 13 (.pure 14 (.eff 15 (.pure 16 (.eff 17 .done))))))))))))))))))),
  (16, (.pure 0 (.pure 1 (.pure 2 (.pure 4 (.pure 5 (.pure 6 (.pure 7 (.read 3 (.read 8 (.eff 9 (.pure 10 .done)))))))))))),
  (17, (.pure 0 (.pure 1 (.pure 2 (.pure 3 (.pure 4 (.pure 5 (.pure 6 (.pure 7 (.pure 8 (.pure 10 (.pure 11 (.pure 12 (.read 9 (.read 13 (.pure 14 (.eff 15 (.pure 16 (.eff 17 .done))))))))))))))))))),
  (22, (.pure 0 (.pure 1 (.pure 2 (.pure 4 (.pure 5 (.pure 6 (.pure 7 (.read 3 (.read 8 (.eff 9 (.pure 10 .done)))))))))))),
  (23, (.pure 0 (.pure 1 (.pure 2 (.pure 3 (.pure 4 (.pure 5 (.pure 6 (.pure 7 (.pure 8 (.pure 10 (.pure 11 (.pure 12 (.read 9 (.read 13 (.pure 14 (.eff 15 (.pure 16 (.eff 17 .done)))))))))))))))))))]
def pl340 : List (Nat × Plan) := [(1, (.pure 0 (.pure 1 (.pure 2 (.pure 3 (.pure 4 (.pure 5 (.pure 6 (.pure 8 (.pure 9 (.pure 10 (.read 7 (.read 11 (.pure 12 (.eff 13 (.pure 14 (.eff 15 .done))))))))))))))))),
  (3, (.pure 0 (.pure 1 (.pure 2 (.pure 3 (.pure 4 (.pure 5 (.pure 6 (.pure 8 (.pure 9 (.pure 10 (.read 7 (.read 11 (.eff 12 (.pure 13 (.pure 14 .done)))))))))))))))),
  (5, (.pure 0 (.pure 1 (.pure 2 (.pure 3 (.pure 4 (.pure 5 (.pure 6 (.pure 8 (.pure 9 (.pure 10 (.read 7 (.read 11 (.eff 12 (.pure 13 .done))))))))))))))),
  (8, (.pure 0 (.pure 1 (.pure 2 (.pure 3 (.pure 4 (.pure 5 (.pure 6 (.pure 8 (.pure 9 (.pure 10 (.read 7 (.read 11 (.pure 12 (.eff 13 (.pure 14 (.eff 15 .done)))))))))))))))))]
def pl341 : List (Nat × Plan) := [(1, (.pure 0 (.pure 1 (.pure 2 (.pure 3 (.pure 4 (.pure 5 (.pure 6 (.pure 8 (.pure 9 (.pure 10 (.read 7 (.read 11 (.pure 12 (.eff 13 (.pure 14 (.eff 15 .done))))))))))))))))),
  (3, (.pure 0 (.pure 1 (.pure 2 (.pure 3 (.pure 4 (.pure 5 (.pure 6 (.pure 8 (.pure 9 (.pure 10 (.read 7 (.read 11 (.eff 12 (.pure 13 .done))))))))))))))),
  (5, (.pure 0 (.pure 1 (.pure 2 (.pure 3 (.pure 4 (.pure 5 (.pure 6 (.pure 8 (.pure 9 (.pure 10 (.read 7 (.read 11 (.eff 12 (.pure 13 (.pure 14 .done)))))))))))))))),
  (8, (.pure 0 (.pure 1 (.pure 2 (.pure 3 (.pure 4 (.pure 5 (.pure 6 (.pure 8 (.pure 9 (.pure 10 (.read 7 (.read 11 (.pure 12 (.eff 13 (.pure 14 (.eff 15 .done))))))))))))))))),
  (10, (.pure 0 (.pure 1 (.pure 2 (.pure 3 (.pure 4 (.pure 5 (.pure 6 (.pure 8 (.pure 9 (.pure 10 (.read 7 (.read 11 (.pure 12 (.eff 13 (.pure 14 (.eff 15 .done))))))))))))))))),
  (13, (.pure 0 (.pure 1 (.pure 2 (.pure 3 (.pure 4 (.pure 5 (.pure 6 (.pure 8 (.pure 9 (.pure 10 (.read 7 (.read 11 (.eff 12 (.pure 13 .done))))))))))))))),
  (15, (.pure 0 (.pure 1 (.pure 2 (.pure 3 (.pure 4 (.pure 5 (.pure 6 (.pure 8 (.pure 9 (.pure 10 (.read 7 (.read 11 (.eff 12 (.pure 13 (.pure 14 .done)))))))))))))))),
  (18, (.pure 0 (.pure 1 (.pure 2 (.pure 3 (.pure 4 (.pure 5 (.pure 6 (.pure 8 (.pure 9 (.pure 10 (.read 7 (.read 11 (.pure 12 (.eff 13 (.pure 14 (.eff 15 .done))))))))))))))))),
  (21, (.pure 0 (.pure 1 (.pure 2 (.pure 3 (.pure 4 (.pure 5 (.pure 6 (.pure 8 (.pure 9 (.pure 10 (.read 7 (.read 11 (.pure 12 (.eff 13 (.pure 14 (.eff 15 .done)))))))))))))))))]
def pl342 : List (Nat × Plan) := [(9, (.pure 0 (.pure 1 (.pure 2 (.pure 3 (.pure 4 (.pure 5 (.pure 6 (.eff 7 (.pure 8 (.pure 9 .done)))))))))))]
def pl347 : List (Nat × Plan) := [(7, (.pure 0 (.pure 1 (.pure 2 (.pure 3 (.pure 5 (.pure 6 (.pure 7 (.read 4 (.read 8 (.eff 9 (.pure 10 (.eff 11 (.pure 12 .done))))))))))))))]
def pl351 : List (Nat × Plan) := [(3, (.pure 0 (.pure 1 (.pure 2 (.pure 3 (.pure 5 (.pure 6 (.pure 7 (.read 4 (.read 8 (.eff 9 .done)))))))))))]
def pl354 : List (Nat × Plan) := [(1, (.pure 0 (.pure 2 (.pure 5 (.pure 7 (.read 1 (.read 3 (.read 6 (.read 8 (.eff 4 (.eff 9 (.eff 10 (.eff 11 (.pure 12 .done))))))))))))))]
def pl355 : List (Nat × Plan) := [(1, (.pure 0 (.pure 1 (.pure 2 (.pure 3 (.pure 5 (.pure 6 (.pure 7 (.read 4 (.read 8 (.eff 9 (.pure 10 .done))))))))))))]
def pl359 : List (Nat × Plan) := [(3, (.pure 0 (.pure 1 (.pure 2 (.pure 3 (.pure 4 (.pure 5 (.pure 6 (.pure 7 (.pure 8 (.pure 9 (.pure 11 (.pure 12 (.pure 13 (.pure 14 (.pure 15 (.pure 16 (.read 10 (.read 17 (.eff 18 (.pure 19 .done))))))))))))))))))))),
  (5, (.pure 0 (.pure 1 (.pure 2 (.pure 3 (.pure 4 (.pure 6 (.pure 7 (.pure 8 (.pure 9 (.pure 10 (.read 5 (.read 11 (.eff 12 (.pure 13 .done))))))))))))))),
  (6, (.pure 0 (.pure 1 (.pure 2 (.pure 3 (.pure 4 (.pure 5 (.pure 6 (.pure 7 (.pure 8 (.pure 9 (.pure 10 (.pure 11 (.pure 12 (.pure 14 (.pure 15 (.pure 16 (.pure 17 (.pure 18 (.read 13 (.read 19 (.pure 20 (.eff 21 (.pure 22 (.eff 23 .done)))))))))))))))))))))))))]
def pl363 : List (Nat × Plan) := [(6, (.pure 0 (.pure 1 (.pure 2 (.pure 3 (.pure 4 (.pure 5 (.pure 6 (.pure 7 (.pure 8 (.pure 10 (.read 9 (.pure 11 (.read 12 (.pure 13 (.pure 14 (.read 15 (.eff 16 (.pure 17 (.pure 18 .done))))))))))))))))))))]
def pl365 : List (Nat × Plan) := [(7, (.pure 0 (.pure 1 (.pure 2 (.pure 3 (.pure 5 (.pure 6 (.pure 7 (.alt (.eff 4 (.eff 8 (.pure 9 (.pure 10 (.pure 11 (.eff 12 .done)))))) (.eff 8 (.eff 4 (.pure 9 (.pure 10 (.pure 11 (.eff 12 .done)))))))))))))))]
def pl367 : List (Nat × Plan) := [(3, (.pure 0 (.pure 1 (.pure 2 (.pure 3 (.pure 4 (.pure 5 (.pure 6 (.pure 8 (.pure 9 (.pure 10 (.read 7 (.read 11 (.pure 12 (.eff 13 (.pure 14 (.eff 15 .done)))))))))))))))))]
def pl368 : List (Nat × Plan) := [(3, (.pure 0 (.pure 1 (.pure 2 (.pure 3 (.pure 4 (.pure 5 (.pure 6 (.pure 8 (.pure 9 (.pure 10 (.read 7 (.read 11 (.pure 12 (.eff 13 (.pure 14 (.eff 15 .done)))))))))))))))))]
def pl369 : List (Nat × Plan) := [(1, (.pure 0 (.pure 1 (.pure 2 (.pure 4 (.pure 5 (.pure 6 (.read 3 (.read 7 (.eff 8 .done))))))))))]
def pl372 : List (Nat × Plan) := [(5, (.pure 0 (.pure 1 (.pure 2 (.pure 3 (.pure 4 (.pure 5 (.eff 6 (.pure 7 .done)))))))))]
def plTbl : Tr (List (Nat × Plan)) := (.n none (.n none (.n none (.n (some pl7) (.n none (.n (some pl31) (.n none (.n none (.n (some pl255) .e .e) .e) .e) (.n (some pl95) (.n none (.n (some pl287) .e .e) .e) (.n none (.n (some pl351) .e .e) .e))) (.n none (.n none .e (.n none (.n (some pl335) .e .e) .e)) (.n (some pl111) .e (.n none (.n (some pl367) .e .e) .e)))) (.n none (.n none (.n (some pl71) .e .e) (.n (some pl103) (.n (some pl167) .e .e) (.n (some pl231) (.n (some pl359) .e .e) .e))) (.n none (.n (some pl87) .e .e) .e))) (.n none (.n none (.n none (.n none (.n (some pl131) .e .e) .e) (.n none (.n (some pl163) (.n (some pl291) .e .e) .e) (.n none (.n (some pl355) .e .e) .e))) (.n none (.n (some pl83) .e .e) (.n none (.n (some pl179) .e .e) .e))) (.n none (.n none (.n none (.n none (.n (some pl267) .e .e) .e) .e) (.n none (.n none (.n (some pl299) .e .e) .e) (.n none (.n (some pl363) .e .e) .e))) (.n none (.n none (.n none (.n (some pl283) .e .e) .e) (.n none (.n (some pl347) .e .e) .e)) (.n none .e (.n (some pl251) .e .e)))))) (.n none (.n none (.n none (.n none (.n none (.n (some pl129) .e .e) .e) .e) (.n none (.n none (.n none (.n (some pl273) .e .e) .e) (.n (some pl209) (.n (some pl337) .e .e) .e)) (.n none (.n (some pl177) .e .e) (.n (some pl241) (.n (some pl369) .e .e) .e)))) (.n none (.n none (.n (some pl73) .e (.n (some pl201) .e .e)) (.n none (.n (some pl169) .e .e) .e)) (.n (some pl57) (.n (some pl89) (.n none (.n (some pl281) .e .e) .e) .e) (.n none (.n (some pl185) (.n (some pl313) .e .e) .e) (.n (some pl249) .e .e))))) (.n none (.n none (.n none (.n none (.n (some pl133) .e .e) .e) (.n (some pl101) .e (.n (some pl229) .e .e))) (.n none (.n none (.n none (.n (some pl277) .e .e) .e) (.n none (.n (some pl341) .e .e) .e)) (.n none (.n (some pl181) .e .e) .e))) (.n (some pl29) (.n none (.n (some pl77) (.n none (.n (some pl269) .e .e) .e) (.n (some pl205) (.n (some pl333) .e .e) .e)) (.n (some pl109) (.n (some pl173) .e .e) (.n (some pl237) (.n (some pl365) .e .e) .e))) (.n (some pl61) (.n none (.n (some pl157) .e .e) .e) (.n none .e (.n (some pl253) .e .e))))))) (.n none (.n none (.n (some pl8) (.n none (.n (some pl32) (.n none (.n none (.n (some pl256) .e .e) .e) .e) (.n none .e (.n (some pl224) .e .e))) (.n none .e (.n none (.n (some pl176) .e .e) (.n none (.n (some pl368) .e .e) .e)))) (.n none (.n none (.n (some pl72) .e (.n (some pl200) .e .e)) (.n (some pl104) .e .e)) (.n none (.n none (.n (some pl152) .e .e) .e) (.n none (.n (some pl184) .e .e) .e)))) (.n none (.n none (.n none (.n none (.n none (.n (some pl260) .e .e) .e) (.n none (.n (some pl324) .e .e) .e)) (.n none (.n none (.n (some pl292) .e .e) .e) .e)) (.n none (.n none (.n none (.n (some pl276) .e .e) .e) (.n none (.n (some pl340) .e .e) .e)) (.n none .e (.n (some pl244) (.n (some pl372) .e .e) .e)))) (.n none (.n none (.n (some pl76) .e .e) (.n none (.n (some pl172) .e .e) .e)) (.n (some pl60) .e .e)))) (.n (some pl6) (.n none (.n none (.n none (.n none (.n none (.n (some pl258) .e .e) .e) .e) (.n none (.n (some pl162) .e .e) (.n none (.n (some pl354) .e .e) .e))) (.n (some pl50) (.n none .e (.n (some pl210) (.n (some pl338) .e .e) .e)) (.n none (.n (some pl178) (.n (some pl306) .e .e) .e) (.n (some pl242) .e .e)))) (.n none (.n (some pl42) (.n none (.n (some pl138) .e .e) .e) (.n (some pl106) (.n (some pl170) .e .e) (.n (some pl234) .e .e))) (.n (some pl58) (.n none (.n (some pl154) .e .e) .e) (.n none .e (.n (some pl250) .e .e))))) (.n none (.n none (.n (some pl38) .e .e) (.n none (.n none (.n none (.n (some pl278) .e .e) .e) (.n (some pl214) (.n (some pl342) .e .e) .e)) (.n none (.n (some pl182) .e .e) .e))) (.n none (.n (some pl46) (.n none (.n (some pl142) .e .e) (.n none (.n (some pl334) .e .e) .e)) .e) (.n (some pl62) (.n none (.n (some pl158) .e .e) .e) (.n none .e (.n (some pl254) .e .e))))))))
theorem okf6 : okB Tryz.prog (plansIn plTbl) 6 = true := by decide +kernel
theorem ok_q7_17_0 : partOk Tryz.prog 7 17 [] 1 [true, true, true, true, true, true, true, true, true, true, true, true, true, true, true, true, true, true, true, true, false] q7_17_0 = true := by decide +kernel
def F_q7_17_0 : PF := (1, [true, true, true, true, true, true, true, true, true, true, true, true, true, true, true, true, true, true, true, true, false], q7_17_0) :: []
theorem all_q7_17_0 : AllOk Tryz.prog 7 17 F_q7_17_0 := allOk_cons allOk_nil ok_q7_17_0
theorem ok_q7_17_1 : partOk Tryz.prog 7 17 F_q7_17_0 3 [true, true, true, true, true, true, true, true, true, true, true, true, true, true, true, true, true, true, false, false, false] q7_17_1 = true := by decide +kernel
def F_q7_17_1 : PF := (3, [true, true, true, true, true, true, true, true, true, true, true, true, true, true, true, true, true, true, false, false, false], q7_17_1) :: F_q7_17_0
theorem all_q7_17_1 : AllOk Tryz.prog 7 17 F_q7_17_1 := allOk_cons all_q7_17_0 ok_q7_17_1
theorem ok_q7_17_2 : partOk Tryz.prog 7 17 F_q7_17_1 4 [true, true, true, true, true, true, true, true, true, true, true, true, true, true, true, true, true, false, false, false, false] q7_17_2 = true := by decide +kernel
def F_q7_17_2 : PF := (4, [true, true, true, true, true, true, true, true, true, true, true, true, true, true, true, true, true, false, false, false, false], q7_17_2) :: F_q7_17_1
theorem all_q7_17_2 : AllOk Tryz.prog 7 17 F_q7_17_2 := allOk_cons all_q7_17_1 ok_q7_17_2
theorem ok_q7_17_3 : partOk Tryz.prog 7 17 F_q7_17_2 4 [true, true, true, true, true, true, true, true, true, true, true, true, true, true, false, true, true, true, false, false, false] q7_17_3 = true := by decide +kernel
def F_q7_17_3 : PF := (4, [true, true, true, true, true, true, true, true, true, true, true, true, true, true, false, true, true, true, false, false, false], q7_17_3) :: F_q7_17_2
theorem all_q7_17_3 : AllOk Tryz.prog 7 17 F_q7_17_3 := allOk_cons all_q7_17_2 ok_q7_17_3
theorem ok_q7_17_4 : partOk Tryz.prog 7 17 F_q7_17_3 5 [true, true, true, true, true, true, true, true, true, true, true, true, true, true, false, true, true, false, false, false, false] q7_17_4 = true := by decide +kernel
def F_q7_17_4 : PF := (5, [true, true, true, true, true, true, true, true, true, true, true, true, true, true, false, true, true, false, false, false, false], q7_17_4) :: F_q7_17_3
theorem all_q7_17_4 : AllOk Tryz.prog 7 17 F_q7_17_4 := allOk_cons all_q7_17_3 ok_q7_17_4
theorem ok_q7_17_5 : partOk Tryz.prog 7 17 F_q7_17_4 7 [true, true, true, true, true, true, true, true, true, true, true, true, false, true, true, false, false, false, false, false, false] q7_17_5 = true := by decide +kernel
def F_q7_17_5 : PF := (7, [true, true, true, true, true, true, true, true, true, true, true, true, false, true, true, false, false, false, false, false, false], q7_17_5) :: F_q7_17_4
theorem all_q7_17_5 : AllOk Tryz.prog 7 17 F_q7_17_5 := allOk_cons all_q7_17_4 ok_q7_17_5
theorem ok_q7_17_6 : partOk Tryz.prog 7 17 F_q7_17_5 8 [true, true, true, true, true, true, true, true, true, true, true, true, false, true, false, false, false, false, false, false, false] q7_17_6 = true := by decide +kernel
def F_q7_17_6 : PF := (8, [true, true, true, true, true, true, true, true, true, true, true, true, false, true, false, false, false, false, false, false, false], q7_17_6) :: F_q7_17_5
theorem all_q7_17_6 : AllOk Tryz.prog 7 17 F_q7_17_6 := allOk_cons all_q7_17_5 ok_q7_17_6
theorem ok_q7_17_7 : partOk Tryz.prog 7 17 F_q7_17_6 8 [true, true, true, true, true, true, true, true, true, true, true, false, false, true, true, false, false, false, false, false, false] q7_17_7 = true := by decide +kernel
def F_q7_17_7 : PF := (8, [true, true, true, true, true, true, true, true, true, true, true, false, false, true, true, false, false, false, false, false, false], q7_17_7) :: F_q7_17_6
theorem all_q7_17_7 : AllOk Tryz.prog 7 17 F_q7_17_7 := allOk_cons all_q7_17_6 ok_q7_17_7
theorem ok_q7_17_8 : partOk Tryz.prog 7 17 F_q7_17_7 9 [true, true, true, true, true, true, true, true, true, true, true, false, false, true, false, false, false, false, false, false, false] q7_17_8 = true := by decide +kernel
def F_q7_17_8 : PF := (9, [true, true, true, true, true, true, true, true, true, true, true, false, false, true, false, false, false, false, false, false, false], q7_17_8) :: F_q7_17_7
theorem all_q7_17_8 : AllOk Tryz.prog 7 17 F_q7_17_8 := allOk_cons all_q7_17_7 ok_q7_17_8
theorem ok_q7_17_9 : partOk Tryz.prog 7 17 F_q7_17_8 8 [true, true, true, true, true, true, true, true, true, false, true, true, false, true, true, false, false, false, false, false, false] q7_17_9 = true := by decide +kernel
def F_q7_17_9 : PF := (8, [true, true, true, true, true, true, true, true, true, false, true, true, false, true, true, false, false, false, false, false, false], q7_17_9) :: F_q7_17_8
theorem all_q7_17_9 : AllOk Tryz.prog 7 17 F_q7_17_9 := allOk_cons all_q7_17_8 ok_q7_17_9
theorem ok_q7_17_10 : partOk Tryz.prog 7 17 F_q7_17_9 9 [true, true, true, true, true, true, true, true, true, false, true, true, false, true, false, false, false, false, false, false, false] q7_17_10 = true := by decide +kernel
def F_q7_17_10 : PF := (9, [true, true, true, true, true, true, true, true, true, false, true, true, false, true, false, false, false, false, false, false, false], q7_17_10) :: F_q7_17_9
theorem all_q7_17_10 : AllOk Tryz.prog 7 17 F_q7_17_10 := allOk_cons all_q7_17_9 ok_q7_17_10
theorem ok_q7_17_11 : partOk Tryz.prog 7 17 F_q7_17_10 9 [true, true, true, true, true, true, true, true, true, false, true, false, false, true, true, false, false, false, false, false, false] q7_17_11 = true := by decide +kernel
def F_q7_17_11 : PF := (9, [true, true, true, true, true, true, true, true, true, false, true, false, false, true, true, false, false, false, false, false, false], q7_17_11) :: F_q7_17_10
theorem all_q7_17_11 : AllOk Tryz.prog 7 17 F_q7_17_11 := allOk_cons all_q7_17_10 ok_q7_17_11
theorem ok_q7_17_12 : partOk Tryz.prog 7 17 F_q7_17_11 5 [true, true, true, true, true, false, true, true, true, true, true, true, true, true, true, true, true, false, false, false, false] q7_17_12 = true := by decide +kernel
def F_q7_17_12 : PF := (5, [true, true, true, true, true, false, true, true, true, true, true, true, true, true, true, true, true, false, false, false, false], q7_17_12) :: F_q7_17_11
theorem all_q7_17_12 : AllOk Tryz.prog 7 17 F_q7_17_12 := allOk_cons all_q7_17_11 ok_q7_17_12
theorem ok_q7_17_13 : partOk Tryz.prog 7 17 F_q7_17_12 8 [true, true, true, true, true, false, true, true, true, true, true, true, false, true, true, false, false, false, false, false, false] q7_17_13 = true := by decide +kernel
def F_q7_17_13 : PF := (8, [true, true, true, true, true, false, true, true, true, true, true, true, false, true, true, false, false, false, false, false, false], q7_17_13) :: F_q7_17_12
theorem all_q7_17_13 : AllOk Tryz.prog 7 17 F_q7_17_13 := allOk_cons all_q7_17_12 ok_q7_17_13
theorem ok_q7_17_14 : partOk Tryz.prog 7 17 F_q7_17_13 9 [true, true, true, true, true, false, true, true, true, true, true, true, false, true, false, false, false, false, false, false, false] q7_17_14 = true := by decide +kernel
def F_q7_17_14 : PF := (9, [true, true, true, true, true, false, true, true, true, true, true, true, false, true, false, false, false, false, false, false, false], q7_17_14) :: F_q7_17_13
theorem all_q7_17_14 : AllOk Tryz.prog 7 17 F_q7_17_14 := allOk_cons all_q7_17_13 ok_q7_17_14
theorem ok_q7_17_15 : partOk Tryz.prog 7 17 F_q7_17_14 9 [true, true, true, true, true, false, true, true, true, true, true, false, false, true, true, false, false, false, false, false, false] q7_17_15 = true := by decide +kernel
def F_q7_17_15 : PF := (9, [true, true, true, true, true, false, true, true, true, true, true, false, false, true, true, false, false, false, false, false, false], q7_17_15) :: F_q7_17_14
theorem all_q7_17_15 : AllOk Tryz.prog 7 17 F_q7_17_15 := allOk_cons all_q7_17_14 ok_q7_17_15
theorem ok_q7_17_16 : partOk Tryz.prog 7 17 F_q7_17_15 9 [true, true, true, true, true, false, true, true, true, false, true, true, false, true, true, false, false, false, false, false, false] q7_17_16 = true := by decide +kernel
def F_q7_17_16 : PF := (9, [true, true, true, true, true, false, true, true, true, false, true, true, false, true, true, false, false, false, false, false, false], q7_17_16) :: F_q7_17_15
theorem all_q7_17_16 : AllOk Tryz.prog 7 17 F_q7_17_16 := allOk_cons all_q7_17_15 ok_q7_17_16
def pw7_17 : Plan := (.pure 0 (.pure 1 (.pure 2 (.pure 3 (.pure 6 (.pure 7 (.pure 8 (.pure 13 (.read 4 (.read 10 (.alt (.eff 5 (.alt (.eff 9 q7_17_8) (.alt (.eff 11 q7_17_10) (.eff 14 q7_17_11)))) (.alt (.eff 9 (.alt (.eff 5 q7_17_8) (.alt (.eff 11 q7_17_14) (.eff 14 q7_17_15)))) (.alt (.eff 11 (.alt (.eff 5 q7_17_10) (.alt (.eff 9 q7_17_14) (.eff 14 q7_17_16)))) (.eff 14 (.alt (.eff 5 q7_17_11) (.alt (.eff 9 q7_17_15) (.eff 11 q7_17_16)))))))))))))))))
theorem okw7_17 : wholeOk Tryz.prog 7 17 F_q7_17_16 pw7_17 = true := by decide +kernel
theorem okf7 : okB Tryz.prog (plansIn plTbl) 7 = true := by
  refine okB_of (skip := [17]) (by decide +kernel) ?_
  intro id hid ops ho
  simp only [List.mem_cons, List.not_mem_nil, or_false] at hid
  rcases hid with rfl
  · exact ⟨pw7_17, rfl, whole_ok all_q7_17_16 okw7_17 ops ho⟩
theorem okf8 : okB Tryz.prog (plansIn plTbl) 8 = true := by decide +kernel
theorem okf29 : okB Tryz.prog (plansIn plTbl) 29 = true := by decide +kernel
theorem okf31 : okB Tryz.prog (plansIn plTbl) 31 = true := by decide +kernel
theorem okf32 : okB Tryz.prog (plansIn plTbl) 32 = true := by decide +kernel
theorem ok_q38_4_0 : partOk Tryz.prog 38 4 [] 7 [true, true, true, true, true, true, true, true, true, true, true, true, true, true, false, false, false, false, false, false, false] q38_4_0 = true := by decide +kernel
def F_q38_4_0 : PF := (7, [true, true, true, true, true, true, true, true, true, true, true, true, true, true, false, false, false, false, false, false, false], q38_4_0) :: []
theorem all_q38_4_0 : AllOk Tryz.prog 38 4 F_q38_4_0 := allOk_cons allOk_nil ok_q38_4_0
theorem ok_q38_4_1 : partOk Tryz.prog 38 4 F_q38_4_0 8 [true, true, true, true, true, true, true, true, true, false, true, true, true, true, false, false, false, false, false, false, false] q38_4_1 = true := by decide +kernel
def F_q38_4_1 : PF := (8, [true, true, true, true, true, true, true, true, true, false, true, true, true, true, false, false, false, false, false, false, false], q38_4_1) :: F_q38_4_0
theorem all_q38_4_1 : AllOk Tryz.prog 38 4 F_q38_4_1 := allOk_cons all_q38_4_0 ok_q38_4_1
theorem ok_q38_4_2 : partOk Tryz.prog 38 4 F_q38_4_1 9 [true, true, true, true, true, true, true, true, true, false, true, true, true, false, false, false, false, false, false, false, false] q38_4_2 = true := by decide +kernel
def F_q38_4_2 : PF := (9, [true, true, true, true, true, true, true, true, true, false, true, true, true, false, false, false, false, false, false, false, false], q38_4_2) :: F_q38_4_1
theorem all_q38_4_2 : AllOk Tryz.prog 38 4 F_q38_4_2 := allOk_cons all_q38_4_1 ok_q38_4_2
theorem ok_q38_4_3 : partOk Tryz.prog 38 4 F_q38_4_2 9 [true, true, true, true, true, true, true, true, false, false, true, true, true, true, false, false, false, false, false, false, false] q38_4_3 = true := by decide +kernel
def F_q38_4_3 : PF := (9, [true, true, true, true, true, true, true, true, false, false, true, true, true, true, false, false, false, false, false, false, false], q38_4_3) :: F_q38_4_2
theorem all_q38_4_3 : AllOk Tryz.prog 38 4 F_q38_4_3 := allOk_cons all_q38_4_2 ok_q38_4_3
theorem ok_q38_4_4 : partOk Tryz.prog 38 4 F_q38_4_3 9 [true, true, true, true, false, true, true, true, true, false, true, true, true, true, false, false, false, false, false, false, false] q38_4_4 = true := by decide +kernel
def F_q38_4_4 : PF := (9, [true, true, true, true, false, true, true, true, true, false, true, true, true, true, false, false, false, false, false, false, false], q38_4_4) :: F_q38_4_3
theorem all_q38_4_4 : AllOk Tryz.prog 38 4 F_q38_4_4 := allOk_cons all_q38_4_3 ok_q38_4_4
theorem ok_q38_4_5 : partOk Tryz.prog 38 4 F_q38_4_4 10 [true, true, true, true, false, true, true, true, true, false, true, true, true, false, false, false, false, false, false, false, false] q38_4_5 = true := by decide +kernel
def F_q38_4_5 : PF := (10, [true, true, true, true, false, true, true, true, true, false, true, true, true, false, false, false, false, false, false, false, false], q38_4_5) :: F_q38_4_4
theorem all_q38_4_5 : AllOk Tryz.prog 38 4 F_q38_4_5 := allOk_cons all_q38_4_4 ok_q38_4_5
theorem ok_q38_4_6 : partOk Tryz.prog 38 4 F_q38_4_5 10 [true, true, true, true, false, true, true, true, false, false, true, true, true, true, false, false, false, false, false, false, false] q38_4_6 = true := by decide +kernel
def F_q38_4_6 : PF := (10, [true, true, true, true, false, true, true, true, false, false, true, true, true, true, false, false, false, false, false, false, false], q38_4_6) :: F_q38_4_5
theorem all_q38_4_6 : AllOk Tryz.prog 38 4 F_q38_4_6 := allOk_cons all_q38_4_5 ok_q38_4_6
theorem ok_q38_4_7 : partOk Tryz.prog 38 4 F_q38_4_6 10 [true, true, true, false, false, true, true, true, true, false, true, true, true, true, false, false, false, false, false, false, false] q38_4_7 = true := by decide +kernel
def F_q38_4_7 : PF := (10, [true, true, true, false, false, true, true, true, true, false, true, true, true, true, false, false, false, false, false, false, false], q38_4_7) :: F_q38_4_6
theorem all_q38_4_7 : AllOk Tryz.prog 38 4 F_q38_4_7 := allOk_cons all_q38_4_6 ok_q38_4_7
def pw38_4 : Plan := (.pure 0 (.pure 1 (.pure 2 (.pure 5 (.pure 6 (.pure 7 (.pure 10 (.pure 11 (.pure 12 (.alt (.eff 3 (.alt (.eff 4 (.alt (.eff 8 q38_4_2) (.eff 13 q38_4_3))) (.alt (.eff 8 q38_4_5) (.eff 13 q38_4_6)))) (.alt (.eff 8 (.alt (.eff 3 q38_4_5) (.eff 13 q38_4_7))) (.eff 13 (.alt (.eff 3 q38_4_6) (.eff 8 q38_4_7))))))))))))))
theorem okw38_4 : wholeOk Tryz.prog 38 4 F_q38_4_7 pw38_4 = true := by decide +kernel
theorem ok_q38_5_0 : partOk Tryz.prog 38 5 [] 7 [true, true, true, true, true, true, true, true, true, true, true, true, true, true, false, false, false, false, false, false, false] q38_5_0 = true := by decide +kernel
def F_q38_5_0 : PF := (7, [true, true, true, true, true, true, true, true, true, true, true, true, true, true, false, false, false, false, false, false, false], q38_5_0) :: []
theorem all_q38_5_0 : AllOk Tryz.prog 38 5 F_q38_5_0 := allOk_cons allOk_nil ok_q38_5_0
theorem ok_q38_5_1 : partOk Tryz.prog 38 5 F_q38_5_0 8 [true, true, true, true, true, true, true, true, true, false, true, true, true, true, false, false, false, false, false, false, false] q38_5_1 = true := by decide +kernel
def F_q38_5_1 : PF := (8, [true, true, true, true, true, true, true, true, true, false, true, true, true, true, false, false, false, false, false, false, false], q38_5_1) :: F_q38_5_0
theorem all_q38_5_1 : AllOk Tryz.prog 38 5 F_q38_5_1 := allOk_cons all_q38_5_0 ok_q38_5_1
theorem ok_q38_5_2 : partOk Tryz.prog 38 5 F_q38_5_1 9 [true, true, true, true, true, true, true, true, true, false, true, true, true, false, false, false, false, false, false, false, false] q38_5_2 = true := by decide +kernel
def F_q38_5_2 : PF := (9, [true, true, true, true, true, true, true, true, true, false, true, true, true, false, false, false, false, false, false, false, false], q38_5_2) :: F_q38_5_1
theorem all_q38_5_2 : AllOk Tryz.prog 38 5 F_q38_5_2 := allOk_cons all_q38_5_1 ok_q38_5_2
theorem ok_q38_5_3 : partOk Tryz.prog 38 5 F_q38_5_2 9 [true, true, true, true, true, true, true, true, false, false, true, true, true, true, false, false, false, false, false, false, false] q38_5_3 = true := by decide +kernel
def F_q38_5_3 : PF := (9, [true, true, true, true, true, true, true, true, false, false, true, true, true, true, false, false, false, false, false, false, false], q38_5_3) :: F_q38_5_2
theorem all_q38_5_3 : AllOk Tryz.prog 38 5 F_q38_5_3 := allOk_cons all_q38_5_2 ok_q38_5_3
theorem ok_q38_5_4 : partOk Tryz.prog 38 5 F_q38_5_3 9 [true, true, true, true, false, true, true, true, true, false, true, true, true, true, false, false, false, false, false, false, false] q38_5_4 = true := by decide +kernel
def F_q38_5_4 : PF := (9, [true, true, true, true, false, true, true, true, true, false, true, true, true, true, false, false, false, false, false, false, false], q38_5_4) :: F_q38_5_3
theorem all_q38_5_4 : AllOk Tryz.prog 38 5 F_q38_5_4 := allOk_cons all_q38_5_3 ok_q38_5_4
theorem ok_q38_5_5 : partOk Tryz.prog 38 5 F_q38_5_4 10 [true, true, true, true, false, true, true, true, true, false, true, true, true, false, false, false, false, false, false, false, false] q38_5_5 = true := by decide +kernel
def F_q38_5_5 : PF := (10, [true, true, true, true, false, true, true, true, true, false, true, true, true, false, false, false, false, false, false, false, false], q38_5_5) :: F_q38_5_4
theorem all_q38_5_5 : AllOk Tryz.prog 38 5 F_q38_5_5 := allOk_cons all_q38_5_4 ok_q38_5_5
theorem ok_q38_5_6 : partOk Tryz.prog 38 5 F_q38_5_5 10 [true, true, true, true, false, true, true, true, false, false, true, true, true, true, false, false, false, false, false, false, false] q38_5_6 = true := by decide +kernel
def F_q38_5_6 : PF := (10, [true, true, true, true, false, true, true, true, false, false, true, true, true, true, false, false, false, false, false, false, false], q38_5_6) :: F_q38_5_5
theorem all_q38_5_6 : AllOk Tryz.prog 38 5 F_q38_5_6 := allOk_cons all_q38_5_5 ok_q38_5_6
theorem ok_q38_5_7 : partOk Tryz.prog 38 5 F_q38_5_6 10 [true, true, true, false, false, true, true, true, true, false, true, true, true, true, false, false, false, false, false, false, false] q38_5_7 = true := by decide +kernel
def F_q38_5_7 : PF := (10, [true, true, true, false, false, true, true, true, true, false, true, true, true, true, false, false, false, false, false, false, false], q38_5_7) :: F_q38_5_6
theorem all_q38_5_7 : AllOk Tryz.prog 38 5 F_q38_5_7 := allOk_cons all_q38_5_6 ok_q38_5_7
def pw38_5 : Plan := (.pure 0 (.pure 1 (.pure 2 (.pure 5 (.pure 6 (.pure 7 (.pure 10 (.pure 11 (.pure 12 (.alt (.eff 3 (.alt (.eff 4 (.alt (.eff 8 q38_5_2) (.eff 13 q38_5_3))) (.alt (.eff 8 q38_5_5) (.eff 13 q38_5_6)))) (.alt (.eff 8 (.alt (.eff 3 q38_5_5) (.eff 13 q38_5_7))) (.eff 13 (.alt (.eff 3 q38_5_6) (.eff 8 q38_5_7))))))))))))))
theorem okw38_5 : wholeOk Tryz.prog 38 5 F_q38_5_7 pw38_5 = true := by decide +kernel
theorem okf38 : okB Tryz.prog (plansIn plTbl) 38 = true := by
  refine okB_of (skip := [4, 5]) (by decide +kernel) ?_
  intro id hid ops ho
  simp only [List.mem_cons, List.not_mem_nil, or_false] at hid
  rcases hid with rfl | rfl
  · exact ⟨pw38_4, rfl, whole_ok all_q38_4_7 okw38_4 ops ho⟩
  · exact ⟨pw38_5, rfl, whole_ok all_q38_5_7 okw38_5 ops ho⟩
theorem okf42 : okB Tryz.prog (plansIn plTbl) 42 = true := by decide +kernel
theorem okf46 : okB Tryz.prog (plansIn plTbl) 46 = true := by decide +kernel
theorem okf50 : okB Tryz.prog (plansIn plTbl) 50 = true := by decide +kernel
theorem okf57 : okB Tryz.prog (plansIn plTbl) 57 = true := by decide +kernel
theorem okf58 : okB Tryz.prog (plansIn plTbl) 58 = true := by decide +kernel
theorem okf60 : okB Tryz.prog (plansIn plTbl) 60 = true := by decide +kernel
theorem okf61 : okB Tryz.prog (plansIn plTbl) 61 = true := by decide +kernel
theorem okf62 : okB Tryz.prog (plansIn plTbl) 62 = true := by decide +kernel
theorem okf71 : okB Tryz.prog (plansIn plTbl) 71 = true := by decide +kernel
theorem okf72 : okB Tryz.prog (plansIn plTbl) 72 = true := by decide +kernel
theorem okf73 : okB Tryz.prog (plansIn plTbl) 73 = true := by decide +kernel
theorem okf76 : okB Tryz.prog (plansIn plTbl) 76 = true := by decide +kernel
theorem okf77 : okB Tryz.prog (plansIn plTbl) 77 = true := by decide +kernel
theorem okf83 : okB Tryz.prog (plansIn plTbl) 83 = true := by decide +kernel
theorem okf87 : okB Tryz.prog (plansIn plTbl) 87 = true := by decide +kernel
theorem okf89 : okB Tryz.prog (plansIn plTbl) 89 = true := by decide +kernel
theorem okf95 : okB Tryz.prog (plansIn plTbl) 95 = true := by decide +kernel
theorem okf101 : okB Tryz.prog (plansIn plTbl) 101 = true := by decide +kernel
theorem okf103 : okB Tryz.prog (plansIn plTbl) 103 = true := by decide +kernel
theorem okf104 : okB Tryz.prog (plansIn plTbl) 104 = true := by decide +kernel
theorem okf106 : okB Tryz.prog (plansIn plTbl) 106 = true := by decide +kernel
theorem okf109 : okB Tryz.prog (plansIn plTbl) 109 = true := by decide +kernel
theorem okf111 : okB Tryz.prog (plansIn plTbl) 111 = true := by decide +kernel
theorem ok_q129_21_0 : partOk Tryz.prog 129 21 [] 7 [true, true, true, true, true, true, true, true, true, true, true, true, true, true, true, false, false, false, false, false, false, false] q129_21_0 = true := by decide +kernel
def F_q129_21_0 : PF := (7, [true, true, true, true, true, true, true, true, true, true, true, true, true, true, true, false, false, false, false, false, false, false], q129_21_0) :: []
theorem all_q129_21_0 : AllOk Tryz.prog 129 21 F_q129_21_0 := allOk_cons allOk_nil ok_q129_21_0
theorem ok_q129_21_1 : partOk Tryz.prog 129 21 F_q129_21_0 8 [true, true, true, true, true, true, true, true, true, true, true, true, true, true, false, false, false, false, false, false, false, false] q129_21_1 = true := by decide +kernel
def F_q129_21_1 : PF := (8, [true, true, true, true, true, true, true, true, true, true, true, true, true, true, false, false, false, false, false, false, false, false], q129_21_1) :: F_q129_21_0
theorem all_q129_21_1 : AllOk Tryz.prog 129 21 F_q129_21_1 := allOk_cons all_q129_21_0 ok_q129_21_1
theorem ok_q129_21_2 : partOk Tryz.prog 129 21 F_q129_21_1 8 [true, true, true, true, true, true, true, true, true, true, true, true, false, true, true, false, false, false, false, false, false, false] q129_21_2 = true := by decide +kernel
def F_q129_21_2 : PF := (8, [true, true, true, true, true, true, true, true, true, true, true, true, false, true, true, false, false, false, false, false, false, false], q129_21_2) :: F_q129_21_1
theorem all_q129_21_2 : AllOk Tryz.prog 129 21 F_q129_21_2 := allOk_cons all_q129_21_1 ok_q129_21_2
theorem ok_q129_21_3 : partOk Tryz.prog 129 21 F_q129_21_2 8 [true, true, true, true, true, true, true, true, false, true, true, true, true, true, true, false, false, false, false, false, false, false] q129_21_3 = true := by decide +kernel
def F_q129_21_3 : PF := (8, [true, true, true, true, true, true, true, true, false, true, true, true, true, true, true, false, false, false, false, false, false, false], q129_21_3) :: F_q129_21_2
theorem all_q129_21_3 : AllOk Tryz.prog 129 21 F_q129_21_3 := allOk_cons all_q129_21_2 ok_q129_21_3
theorem ok_q129_21_4 : partOk Tryz.prog 129 21 F_q129_21_3 9 [true, true, true, true, true, true, true, true, false, true, true, true, true, true, false, false, false, false, false, false, false, false] q129_21_4 = true := by decide +kernel
def F_q129_21_4 : PF := (9, [true, true, true, true, true, true, true, true, false, true, true, true, true, true, false, false, false, false, false, false, false, false], q129_21_4) :: F_q129_21_3
theorem all_q129_21_4 : AllOk Tryz.prog 129 21 F_q129_21_4 := allOk_cons all_q129_21_3 ok_q129_21_4
theorem ok_q129_21_5 : partOk Tryz.prog 129 21 F_q129_21_4 9 [true, true, true, true, true, true, true, true, false, true, true, true, false, true, true, false, false, false, false, false, false, false] q129_21_5 = true := by decide +kernel
def F_q129_21_5 : PF := (9, [true, true, true, true, true, true, true, true, false, true, true, true, false, true, true, false, false, false, false, false, false, false], q129_21_5) :: F_q129_21_4
theorem all_q129_21_5 : AllOk Tryz.prog 129 21 F_q129_21_5 := allOk_cons all_q129_21_4 ok_q129_21_5
theorem ok_q129_21_6 : partOk Tryz.prog 129 21 F_q129_21_5 10 [true, true, true, true, true, true, true, true, false, true, true, true, false, true, false, false, false, false, false, false, false, false] q129_21_6 = true := by decide +kernel
def F_q129_21_6 : PF := (10, [true, true, true, true, true, true, true, true, false, true, true, true, false, true, false, false, false, false, false, false, false, false], q129_21_6) :: F_q129_21_5
theorem all_q129_21_6 : AllOk Tryz.prog 129 21 F_q129_21_6 := allOk_cons all_q129_21_5 ok_q129_21_6
theorem ok_q129_21_7 : partOk Tryz.prog 129 21 F_q129_21_6 9 [true, true, true, true, true, true, true, false, false, true, true, true, true, true, true, false, false, false, false, false, false, false] q129_21_7 = true := by decide +kernel
def F_q129_21_7 : PF := (9, [true, true, true, true, true, true, true, false, false, true, true, true, true, true, true, false, false, false, false, false, false, false], q129_21_7) :: F_q129_21_6
theorem all_q129_21_7 : AllOk Tryz.prog 129 21 F_q129_21_7 := allOk_cons all_q129_21_6 ok_q129_21_7
theorem ok_q129_21_8 : partOk Tryz.prog 129 21 F_q129_21_7 10 [true, true, true, true, true, true, true, false, false, true, true, true, true, true, false, false, false, false, false, false, false, false] q129_21_8 = true := by decide +kernel
def F_q129_21_8 : PF := (10, [true, true, true, true, true, true, true, false, false, true, true, true, true, true, false, false, false, false, false, false, false, false], q129_21_8) :: F_q129_21_7
theorem all_q129_21_8 : AllOk Tryz.prog 129 21 F_q129_21_8 := allOk_cons all_q129_21_7 ok_q129_21_8
theorem ok_q129_21_9 : partOk Tryz.prog 129 21 F_q129_21_8 10 [true, true, true, true, true, true, true, false, false, true, true, true, false, true, true, false, false, false, false, false, false, false] q129_21_9 = true := by decide +kernel
def F_q129_21_9 : PF := (10, [true, true, true, true, true, true, true, false, false, true, true, true, false, true, true, false, false, false, false, false, false, false], q129_21_9) :: F_q129_21_8
theorem all_q129_21_9 : AllOk Tryz.prog 129 21 F_q129_21_9 := allOk_cons all_q129_21_8 ok_q129_21_9
theorem ok_q129_21_10 : partOk Tryz.prog 129 21 F_q129_21_9 9 [true, true, true, true, true, false, true, true, false, true, true, true, true, true, true, false, false, false, false, false, false, false] q129_21_10 = true := by decide +kernel
def F_q129_21_10 : PF := (9, [true, true, true, true, true, false, true, true, false, true, true, true, true, true, true, false, false, false, false, false, false, false], q129_21_10) :: F_q129_21_9
theorem all_q129_21_10 : AllOk Tryz.prog 129 21 F_q129_21_10 := allOk_cons all_q129_21_9 ok_q129_21_10
theorem ok_q129_21_11 : partOk Tryz.prog 129 21 F_q129_21_10 10 [true, true, true, true, true, false, true, true, false, true, true, true, true, true, false, false, false, false, false, false, false, false] q129_21_11 = true := by decide +kernel
def F_q129_21_11 : PF := (10, [true, true, true, true, true, false, true, true, false, true, true, true, true, true, false, false, false, false, false, false, false, false], q129_21_11) :: F_q129_21_10
theorem all_q129_21_11 : AllOk Tryz.prog 129 21 F_q129_21_11 := allOk_cons all_q129_21_10 ok_q129_21_11
theorem ok_q129_21_12 : partOk Tryz.prog 129 21 F_q129_21_11 10 [true, true, true, true, true, false, true, true, false, true, true, true, false, true, true, false, false, false, false, false, false, false] q129_21_12 = true := by decide +kernel
def F_q129_21_12 : PF := (10, [true, true, true, true, true, false, true, true, false, true, true, true, false, true, true, false, false, false, false, false, false, false], q129_21_12) :: F_q129_21_11
theorem all_q129_21_12 : AllOk Tryz.prog 129 21 F_q129_21_12 := allOk_cons all_q129_21_11 ok_q129_21_12
theorem ok_q129_21_13 : partOk Tryz.prog 129 21 F_q129_21_12 10 [true, true, true, true, true, false, true, false, false, true, true, true, true, true, true, false, false, false, false, false, false, false] q129_21_13 = true := by decide +kernel
def F_q129_21_13 : PF := (10, [true, true, true, true, true, false, true, false, false, true, true, true, true, true, true, false, false, false, false, false, false, false], q129_21_13) :: F_q129_21_12
theorem all_q129_21_13 : AllOk Tryz.prog 129 21 F_q129_21_13 := allOk_cons all_q129_21_12 ok_q129_21_13
def pw129_21 : Plan := (.pure 0 (.pure 1 (.pure 2 (.pure 3 (.pure 4 (.pure 6 (.pure 9 (.pure 10 (.pure 11 (.pure 13 (.alt (.eff 5 (.alt (.eff 7 q129_21_6) (.alt (.eff 12 q129_21_8) (.eff 14 q129_21_9)))) (.alt (.eff 7 (.alt (.eff 5 q129_21_6) (.alt (.eff 12 q129_21_11) (.eff 14 q129_21_12)))) (.alt (.eff 12 (.alt (.eff 5 q129_21_8) (.alt (.eff 7 q129_21_11) (.eff 14 q129_21_13)))) (.eff 14 (.alt (.eff 5 q129_21_9) (.alt (.eff 7 q129_21_12) (.eff 12 q129_21_13)))))))))))))))))
theorem okw129_21 : wholeOk Tryz.prog 129 21 F_q129_21_13 pw129_21 = true := by decide +kernel
theorem ok_q129_22_0 : partOk Tryz.prog 129 22 [] 2 [true, true, true, true, true, true, true, true, true, true, true, true, true, true, true, true, true, false, false] q129_22_0 = true := by decide +kernel
def F_q129_22_0 : PF := (2, [true, true, true, true, true, true, true, true, true, true, true, true, true, true, true, true, true, false, false], q129_22_0) :: []
theorem all_q129_22_0 : AllOk Tryz.prog 129 22 F_q129_22_0 := allOk_cons allOk_nil ok_q129_22_0
theorem ok_q129_22_1 : partOk Tryz.prog 129 22 F_q129_22_0 3 [true, true, true, true, true, true, true, true, true, true, true, true, true, true, true, true, false, false, false] q129_22_1 = true := by decide +kernel
def F_q129_22_1 : PF := (3, [true, true, true, true, true, true, true, true, true, true, true, true, true, true, true, true, false, false, false], q129_22_1) :: F_q129_22_0
theorem all_q129_22_1 : AllOk Tryz.prog 129 22 F_q129_22_1 := allOk_cons all_q129_22_0 ok_q129_22_1
theorem ok_q129_22_2 : partOk Tryz.prog 129 22 F_q129_22_1 3 [true, true, true, true, true, true, true, true, true, true, true, true, true, true, false, true, true, false, false] q129_22_2 = true := by decide +kernel
def F_q129_22_2 : PF := (3, [true, true, true, true, true, true, true, true, true, true, true, true, true, true, false, true, true, false, false], q129_22_2) :: F_q129_22_1
theorem all_q129_22_2 : AllOk Tryz.prog 129 22 F_q129_22_2 := allOk_cons all_q129_22_1 ok_q129_22_2
theorem ok_q129_22_3 : partOk Tryz.prog 129 22 F_q129_22_2 4 [true, true, true, true, true, true, true, true, true, true, true, true, true, true, false, true, false, false, false] q129_22_3 = true := by decide +kernel
def F_q129_22_3 : PF := (4, [true, true, true, true, true, true, true, true, true, true, true, true, true, true, false, true, false, false, false], q129_22_3) :: F_q129_22_2
theorem all_q129_22_3 : AllOk Tryz.prog 129 22 F_q129_22_3 := allOk_cons all_q129_22_2 ok_q129_22_3
theorem ok_q129_22_4 : partOk Tryz.prog 129 22 F_q129_22_3 5 [true, true, true, true, true, true, true, true, true, true, true, true, true, false, true, false, false, false, false] q129_22_4 = true := by decide +kernel
def F_q129_22_4 : PF := (5, [true, true, true, true, true, true, true, true, true, true, true, true, true, false, true, false, false, false, false], q129_22_4) :: F_q129_22_3
theorem all_q129_22_4 : AllOk Tryz.prog 129 22 F_q129_22_4 := allOk_cons all_q129_22_3 ok_q129_22_4
theorem ok_q129_22_5 : partOk Tryz.prog 129 22 F_q129_22_4 4 [true, true, true, true, true, true, true, true, true, true, true, false, true, true, true, true, false, false, false] q129_22_5 = true := by decide +kernel
def F_q129_22_5 : PF := (4, [true, true, true, true, true, true, true, true, true, true, true, false, true, true, true, true, false, false, false], q129_22_5) :: F_q129_22_4
theorem all_q129_22_5 : AllOk Tryz.prog 129 22 F_q129_22_5 := allOk_cons all_q129_22_4 ok_q129_22_5
def pw129_22 : Plan := (.pure 0 (.pure 1 (.pure 2 (.pure 4 (.pure 6 (.pure 7 (.pure 8 (.pure 10 (.read 3 (.read 5 (.read 9 (.read 12 (.alt (.eff 11 (.alt (.eff 13 (.pure 15 q129_22_3)) (.eff 14 q129_22_4))) (.alt (.eff 13 (.pure 15 (.alt (.eff 11 q129_22_3) (.alt (.eff 14 q129_22_5) (.eff 16 (.read 11 q129_22_2)))))) (.eff 14 (.alt (.eff 11 q129_22_4) (.eff 13 (.pure 15 q129_22_5))))))))))))))))))
theorem okw129_22 : wholeOk Tryz.prog 129 22 F_q129_22_5 pw129_22 = true := by decide +kernel
theorem okf129 : okB Tryz.prog (plansIn plTbl) 129 = true := by
  refine okB_of (skip := [21, 22]) (by decide +kernel) ?_
  intro id hid ops ho
  simp only [List.mem_cons, List.not_mem_nil, or_false] at hid
  rcases hid with rfl | rfl
  · exact ⟨pw129_21, rfl, whole_ok all_q129_21_13 okw129_21 ops ho⟩
  · exact ⟨pw129_22, rfl, whole_ok all_q129_22_5 okw129_22 ops ho⟩
theorem okf131 : okB Tryz.prog (plansIn plTbl) 131 = true := by decide +kernel
theorem okf133 : okB Tryz.prog (plansIn plTbl) 133 = true := by decide +kernel
theorem okf138 : okB Tryz.prog (plansIn plTbl) 138 = true := by decide +kernel
theorem okf142 : okB Tryz.prog (plansIn plTbl) 142 = true := by decide +kernel
theorem okf152 : okB Tryz.prog (plansIn plTbl) 152 = true := by decide +kernel
theorem okf154 : okB Tryz.prog (plansIn plTbl) 154 = true := by decide +kernel
theorem okf157 : okB Tryz.prog (plansIn plTbl) 157 = true := by decide +kernel
theorem okf158 : okB Tryz.prog (plansIn plTbl) 158 = true := by decide +kernel
theorem okf162 : okB Tryz.prog (plansIn plTbl) 162 = true := by decide +kernel
theorem okf163 : okB Tryz.prog (plansIn plTbl) 163 = true := by decide +kernel
theorem okf167 : okB Tryz.prog (plansIn plTbl) 167 = true := by decide +kernel
theorem okf169 : okB Tryz.prog (plansIn plTbl) 169 = true := by decide +kernel
theorem okf170 : okB Tryz.prog (plansIn plTbl) 170 = true := by decide +kernel
theorem okf172 : okB Tryz.prog (plansIn plTbl) 172 = true := by decide +kernel
theorem okf173 : okB Tryz.prog (plansIn plTbl) 173 = true := by decide +kernel
theorem okf176 : okB Tryz.prog (plansIn plTbl) 176 = true := by decide +kernel
theorem okf177 : okB Tryz.prog (plansIn plTbl) 177 = true := by decide +kernel
theorem okf178 : okB Tryz.prog (plansIn plTbl) 178 = true := by decide +kernel
theorem okf179 : okB Tryz.prog (plansIn plTbl) 179 = true := by decide +kernel
theorem okf181 : okB Tryz.prog (plansIn plTbl) 181 = true := by decide +kernel
theorem okf182 : okB Tryz.prog (plansIn plTbl) 182 = true := by decide +kernel
theorem okf184 : okB Tryz.prog (plansIn plTbl) 184 = true := by decide +kernel
theorem okf185 : okB Tryz.prog (plansIn plTbl) 185 = true := by decide +kernel
theorem okf200 : okB Tryz.prog (plansIn plTbl) 200 = true := by decide +kernel
theorem okf201 : okB Tryz.prog (plansIn plTbl) 201 = true := by decide +kernel
theorem okf205 : okB Tryz.prog (plansIn plTbl) 205 = true := by decide +kernel
theorem okf209 : okB Tryz.prog (plansIn plTbl) 209 = true := by decide +kernel
theorem okf210 : okB Tryz.prog (plansIn plTbl) 210 = true := by decide +kernel
theorem okf214 : okB Tryz.prog (plansIn plTbl) 214 = true := by decide +kernel
theorem okf224 : okB Tryz.prog (plansIn plTbl) 224 = true := by decide +kernel
theorem okf229 : okB Tryz.prog (plansIn plTbl) 229 = true := by decide +kernel
theorem okf231 : okB Tryz.prog (plansIn plTbl) 231 = true := by decide +kernel
theorem okf234 : okB Tryz.prog (plansIn plTbl) 234 = true := by decide +kernel
theorem okf237 : okB Tryz.prog (plansIn plTbl) 237 = true := by decide +kernel
theorem okf241 : okB Tryz.prog (plansIn plTbl) 241 = true := by decide +kernel
theorem okf242 : okB Tryz.prog (plansIn plTbl) 242 = true := by decide +kernel
theorem okf244 : okB Tryz.prog (plansIn plTbl) 244 = true := by decide +kernel
theorem okf249 : okB Tryz.prog (plansIn plTbl) 249 = true := by decide +kernel
theorem okf250 : okB Tryz.prog (plansIn plTbl) 250 = true := by decide +kernel
theorem okf251 : okB Tryz.prog (plansIn plTbl) 251 = true := by decide +kernel
theorem okf253 : okB Tryz.prog (plansIn plTbl) 253 = true := by decide +kernel
theorem okf254 : okB Tryz.prog (plansIn plTbl) 254 = true := by decide +kernel
theorem okf255 : okB Tryz.prog (plansIn plTbl) 255 = true := by decide +kernel
theorem okf256 : okB Tryz.prog (plansIn plTbl) 256 = true := by decide +kernel
theorem okf258 : okB Tryz.prog (plansIn plTbl) 258 = true := by decide +kernel
theorem okf260 : okB Tryz.prog (plansIn plTbl) 260 = true := by decide +kernel
theorem okf267 : okB Tryz.prog (plansIn plTbl) 267 = true := by decide +kernel
theorem okf269 : okB Tryz.prog (plansIn plTbl) 269 = true := by decide +kernel
theorem okf273 : okB Tryz.prog (plansIn plTbl) 273 = true := by decide +kernel
theorem okf276 : okB Tryz.prog (plansIn plTbl) 276 = true := by decide +kernel
theorem okf277 : okB Tryz.prog (plansIn plTbl) 277 = true := by decide +kernel
theorem ok_q278_4_0 : partOk Tryz.prog 278 4 [] 4 [true, true, true, true, true, true, true, true, true, true, true, true, true, true, true, true, true, true, false, false, false, false] q278_4_0 = true := by decide +kernel
def F_q278_4_0 : PF := (4, [true, true, true, true, true, true, true, true, true, true, true, true, true, true, true, true, true, true, false, false, false, false], q278_4_0) :: []
theorem all_q278_4_0 : AllOk Tryz.prog 278 4 F_q278_4_0 := allOk_cons allOk_nil ok_q278_4_0
theorem ok_q278_4_1 : partOk Tryz.prog 278 4 F_q278_4_0 5 [true, true, true, true, true, true, true, true, true, true, false, true, true, true, true, true, true, true, false, false, false, false] q278_4_1 = true := by decide +kernel
def F_q278_4_1 : PF := (5, [true, true, true, true, true, true, true, true, true, true, false, true, true, true, true, true, true, true, false, false, false, false], q278_4_1) :: F_q278_4_0
theorem all_q278_4_1 : AllOk Tryz.prog 278 4 F_q278_4_1 := allOk_cons all_q278_4_0 ok_q278_4_1
theorem ok_q278_4_2 : partOk Tryz.prog 278 4 F_q278_4_1 7 [true, true, true, true, true, true, true, true, true, true, false, true, true, true, false, true, true, false, false, false, false, false] q278_4_2 = true := by decide +kernel
def F_q278_4_2 : PF := (7, [true, true, true, true, true, true, true, true, true, true, false, true, true, true, false, true, true, false, false, false, false, false], q278_4_2) :: F_q278_4_1
theorem all_q278_4_2 : AllOk Tryz.prog 278 4 F_q278_4_2 := allOk_cons all_q278_4_1 ok_q278_4_2
theorem ok_q278_4_3 : partOk Tryz.prog 278 4 F_q278_4_2 6 [true, true, true, true, true, true, true, true, true, false, false, true, true, true, true, true, true, true, false, false, false, false] q278_4_3 = true := by decide +kernel
def F_q278_4_3 : PF := (6, [true, true, true, true, true, true, true, true, true, false, false, true, true, true, true, true, true, true, false, false, false, false], q278_4_3) :: F_q278_4_2
theorem all_q278_4_3 : AllOk Tryz.prog 278 4 F_q278_4_3 := allOk_cons all_q278_4_2 ok_q278_4_3
theorem ok_q278_4_4 : partOk Tryz.prog 278 4 F_q278_4_3 7 [true, true, true, true, false, true, true, false, true, true, false, true, true, true, true, true, true, true, false, false, false, false] q278_4_4 = true := by decide +kernel
def F_q278_4_4 : PF := (7, [true, true, true, true, false, true, true, false, true, true, false, true, true, true, true, true, true, true, false, false, false, false], q278_4_4) :: F_q278_4_3
theorem all_q278_4_4 : AllOk Tryz.prog 278 4 F_q278_4_4 := allOk_cons all_q278_4_3 ok_q278_4_4
def pw278_4 : Plan := (.pure 0 (.pure 1 (.pure 2 (.pure 3 (.pure 5 (.pure 6 (.pure 8 (.pure 11 (.pure 12 (.pure 13 (.pure 15 (.pure 16 (.alt (.eff 4 (.pure 7 (.alt (.eff 9 q278_4_2) (.eff 14 (.pure 17 q278_4_3))))) (.alt (.eff 9 (.alt (.eff 4 (.pure 7 q278_4_2)) (.eff 14 (.pure 17 q278_4_4)))) (.eff 14 (.pure 17 (.alt (.eff 4 (.pure 7 q278_4_3)) (.eff 9 q278_4_4))))))))))))))))))
theorem okw278_4 : wholeOk Tryz.prog 278 4 F_q278_4_4 pw278_4 = true := by decide +kernel
theorem okf278 : okB Tryz.prog (plansIn plTbl) 278 = true := by
  refine okB_of (skip := [4]) (by decide +kernel) ?_
  intro id hid ops ho
  simp only [List.mem_cons, List.not_mem_nil, or_false] at hid
  rcases hid with rfl
  · exact ⟨pw278_4, rfl, whole_ok all_q278_4_4 okw278_4 ops ho⟩
theorem okf281 : okB Tryz.prog (plansIn plTbl) 281 = true := by decide +kernel
theorem okf283 : okB Tryz.prog (plansIn plTbl) 283 = true := by decide +kernel
theorem okf287 : okB Tryz.prog (plansIn plTbl) 287 = true := by decide +kernel
theorem okf291 : okB Tryz.prog (plansIn plTbl) 291 = true := by decide +kernel
theorem okf292 : okB Tryz.prog (plansIn plTbl) 292 = true := by decide +kernel
theorem okf299 : okB Tryz.prog (plansIn plTbl) 299 = true := by decide +kernel
theorem okf306 : okB Tryz.prog (plansIn plTbl) 306 = true := by decide +kernel
theorem okf313 : okB Tryz.prog (plansIn plTbl) 313 = true := by decide +kernel
theorem okf324 : okB Tryz.prog (plansIn plTbl) 324 = true := by decide +kernel
theorem okf333 : okB Tryz.prog (plansIn plTbl) 333 = true := by decide +kernel
theorem okf334 : okB Tryz.prog (plansIn plTbl) 334 = true := by decide +kernel
theorem okf335 : okB Tryz.prog (plansIn plTbl) 335 = true := by decide +kernel
theorem okf337 : okB Tryz.prog (plansIn plTbl) 337 = true := by decide +kernel
theorem okf338 : okB Tryz.prog (plansIn plTbl) 338 = true := by decide +kernel
theorem okf340 : okB Tryz.prog (plansIn plTbl) 340 = true := by decide +kernel
theorem okf341 : okB Tryz.prog (plansIn plTbl) 341 = true := by decide +kernel
theorem okf342 : okB Tryz.prog (plansIn plTbl) 342 = true := by decide +kernel
theorem okf347 : okB Tryz.prog (plansIn plTbl) 347 = true := by decide +kernel
theorem okf351 : okB Tryz.prog (plansIn plTbl) 351 = true := by decide +kernel
theorem okf354 : okB Tryz.prog (plansIn plTbl) 354 = true := by decide +kernel
theorem okf355 : okB Tryz.prog (plansIn plTbl) 355 = true := by decide +kernel
theorem okf359 : okB Tryz.prog (plansIn plTbl) 359 = true := by decide +kernel
theorem okf363 : okB Tryz.prog (plansIn plTbl) 363 = true := by decide +kernel
theorem okf365 : okB Tryz.prog (plansIn plTbl) 365 = true := by decide +kernel
theorem okf367 : okB Tryz.prog (plansIn plTbl) 367 = true := by decide +kernel
theorem okf368 : okB Tryz.prog (plansIn plTbl) 368 = true := by decide +kernel
theorem okf369 : okB Tryz.prog (plansIn plTbl) 369 = true := by decide +kernel
theorem okf372 : okB Tryz.prog (plansIn plTbl) 372 = true := by decide +kernel
def plKeys : List Nat := [6, 7, 8, 29, 31, 32, 38, 42, 46, 50, 57, 58, 60, 61, 62, 71, 72, 73, 76, 77, 83, 87, 89, 95, 101, 103, 104, 106, 109, 111, 129, 131, 133, 138, 142, 152, 154, 157, 158, 162, 163, 167, 169, 170, 172, 173, 176, 177, 178, 179, 181, 182, 184, 185, 200, 201, 205, 209, 210, 214, 224, 229, 231, 234, 237, 241, 242, 244, 249, 250, 251, 253, 254, 255, 256, 258, 260, 267, 269, 273, 276, 277, 278, 281, 283, 287, 291, 292, 299, 306, 313, 324, 333, 334, 335, 337, 338, 340, 341, 342, 347, 351, 354, 355, 359, 363, 365, 367, 368, 369, 372]
theorem ok_keys : ∀ f, memN f plKeys = true → okB Tryz.prog (plansIn plTbl) f = true := (okB_cons okf6 (okB_cons okf7 (okB_cons okf8 (okB_cons okf29 (okB_cons okf31 (okB_cons okf32 (okB_cons okf38 (okB_cons okf42 (okB_cons okf46 (okB_cons okf50 (okB_cons okf57 (okB_cons okf58 (okB_cons okf60 (okB_cons okf61 (okB_cons okf62 (okB_cons okf71 (okB_cons okf72 (okB_cons okf73 (okB_cons okf76 (okB_cons okf77 (okB_cons okf83 (okB_cons okf87 (okB_cons okf89 (okB_cons okf95 (okB_cons okf101 (okB_cons okf103 (okB_cons okf104 (okB_cons okf106 (okB_cons okf109 (okB_cons okf111 (okB_cons okf129 (okB_cons okf131 (okB_cons okf133 (okB_cons okf138 (okB_cons okf142 (okB_cons okf152 (okB_cons okf154 (okB_cons okf157 (okB_cons okf158 (okB_cons okf162 (okB_cons okf163 (okB_cons okf167 (okB_cons okf169 (okB_cons okf170 (okB_cons okf172 (okB_cons okf173 (okB_cons okf176 (okB_cons okf177 (okB_cons okf178 (okB_cons okf179 (okB_cons okf181 (okB_cons okf182 (okB_cons okf184 (okB_cons okf185 (okB_cons okf200 (okB_cons okf201 (okB_cons okf205 (okB_cons okf209 (okB_cons okf210 (okB_cons okf214 (okB_cons okf224 (okB_cons okf229 (okB_cons okf231 (okB_cons okf234 (okB_cons okf237 (okB_cons okf241 (okB_cons okf242 (okB_cons okf244 (okB_cons okf249 (okB_cons okf250 (okB_cons okf251 (okB_cons okf253 (okB_cons okf254 (okB_cons okf255 (okB_cons okf256 (okB_cons okf258 (okB_cons okf260 (okB_cons okf267 (okB_cons okf269 (okB_cons okf273 (okB_cons okf276 (okB_cons okf277 (okB_cons okf278 (okB_cons okf281 (okB_cons okf283 (okB_cons okf287 (okB_cons okf291 (okB_cons okf292 (okB_cons okf299 (okB_cons okf306 (okB_cons okf313 (okB_cons okf324 (okB_cons okf333 (okB_cons okf334 (okB_cons okf335 (okB_cons okf337 (okB_cons okf338 (okB_cons okf340 (okB_cons okf341 (okB_cons okf342 (okB_cons okf347 (okB_cons okf351 (okB_cons okf354 (okB_cons okf355 (okB_cons okf359 (okB_cons okf363 (okB_cons okf365 (okB_cons okf367 (okB_cons okf368 (okB_cons okf369 (okB_cons okf372 okB_nil)))))))))))))))))))))))))))))))))))))))))))))))))))))))))))))))))))))))))))))))))))))))))))))))))))))))))))))))
theorem keys_all : keysIn plTbl plKeys 395 = true := by decide +kernel
theorem plans_ok : OkAll Tryz.prog (plansIn plTbl) := okB_all ok_keys keys_all (by decide +kernel)
theorem base_ok (l : List Value) (h : ∀ v ∈ l, v.oneCell' = true) (w : World) : @RunBase (sigOf (plansIn plTbl) l h w) Tryz.prog (plansIn plTbl) := RunBase.of mixed (by decide +kernel) plans_ok l h w
end Go.Proofs.YtnclbmfbegbbnaaGreat.V
