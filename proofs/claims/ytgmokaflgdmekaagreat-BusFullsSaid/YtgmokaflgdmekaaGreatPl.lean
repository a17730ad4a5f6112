/-
  The plans of the regions that draw their order, printed by a program; they go with every order. No condition.
-/
import Derived.Test.YtgmokaflgdmekaaGreatFb
import Derived.Test.YtgmokaflgdmekaaGreatFacts
import Derived.Test.YtgmokaflgdmekaaGreatFq
namespace Go.Proofs.YtgmokaflgdmekaaGreat.V
def pl12 : List (Nat × Plan) := [(8, (.pure 0 (.pure 1 (.pure 2 (.pure 3 (.read 5 (.alt (.eff 4 (.eff 6 (.eff 7 (.pure 8 (.pure 9 (.eff 10 .done)))))) (.eff 6 (.eff 4 (.eff 7 (.pure 8 (.pure 9 (.eff 10 .done)))))))))))))]
def pl18 : List (Nat × Plan) := [(3, (.pure 0 (.pure 1 (.pure 2 (.pure 4 (.read 3 (.read 5 (.eff 6 (.pure 7 (.pure 8 (.eff 9 (.pure 10 .done))))))))))))]
def pl19 : List (Nat × Plan) := [(6, (.pure 0 (.pure 1 (.pure 2 (.pure 4 (.pure 5 (.pure 6 (.read 3 (.read 7 (.pure 8 .done))))))))))]
def pl21 : List (Nat × Plan) := [(3, (.read 0 (.eff 1 (.eff 2 (.pure 3 (.eff 4 (.pure 5 .done)))))))]
def pl22 : List (Nat × Plan) := [(10, (.pure 0 (.pure 1 (.pure 2 (.pure 4 (.read 3 (.read 5 (.eff 6 .done)))))))),
  (12, (.pure 0 (.pure 1 (.pure 2 (.pure 4 (.pure 5 (.pure 6 (.read 3 (.read 7 (.pure 8 (.read 9 .done))))))))))),
  (14, (.pure 0 (.pure 1 (.pure 2 (.pure 4 (.pure 5 (.pure 6 (.read 3 (.read 7 (.eff 8 .done))))))))))]
def pl26 : List (Nat × Plan) := [(6, (.pure 0 (.pure 2 (.pure 3 (.pure 5 (.read 1 (.read 4 (.read 6 (.alt (.eff 7 (.pure 8 (.eff 9 (.eff 10 .done)))) (.eff 9 (.eff 7 (.pure 8 (.eff 10 .done))))))))))))),
  (9, (.pure 0 (.pure 1 (.pure 2 (.pure 4 (.pure 5 (.pure 6 (.read 3 (.read 7 (.eff 8 .done)))))))))),
  (10, (.pure 0 (.pure 1 (.pure 2 (.pure 4 (.pure 5 (.pure 6 (.pure 10 (.read 3 (.read 7 (.eff 8 (.pure 9 .done))))))))))))]
def pl40 : List (Nat × Plan) := [(5, (.pure 0 (.pure 1 (.pure 2 (.pure 3 (.pure 5 (.read 4 (.read 7 (.eff 6 (.eff 8 (.pure 9 .done))))))))))),
  (9, (.pure 0 (.pure 1 (.pure 2 (.pure 5 (.pure 7 (.read 3 (.read 6 (.read 8 (.eff 4 (.eff 9 (.pure 10 (.pure 11 (.pure 12 (.pure 13 (.pure 14 .done))))))))))))))))]
def pl44 : List (Nat × Plan) := [(1, (.pure 0 (.pure 1 (.pure 2 (.pure 4 (.read 3 (.read 5 (.eff 6 (.pure 7 (.pure 8 (.pure 9 (.pure 10 (.pure 11 .done)))))))))))))]
def pl57 : List (Nat × Plan) := [(6, (.pure 0 (.pure 1 (.pure 2 (.pure 4 (.pure 6 (.pure 8 (.pure 9 (.pure 10 (.pure 11 (.pure 13 (.pure 16 (.pure 17 (.pure 18 (.pure 20 (.pure 21 (.pure 22 (.read 3 (.read 5 (.read 7 (.read 12 (.read 14 (.read 19 (.read 23 (.eff 15 (.eff 24 (.pure 25 (.eff 26 (.pure 27 (.pure 28 (.pure 29 (.pure 30 (.pure 31 .done))))))))))))))))))))))))))))))))),
  (12, (.pure 0 (.pure 1 (.pure 2 (.pure 4 (.pure 5 (.pure 6 (.pure 8 (.read 3 (.read 7 (.eff 9 .done)))))))))))]
def pl58 : List (Nat × Plan) := [(8, (.pure 0 (.pure 1 (.pure 2 (.pure 3 (.pure 5 (.pure 6 (.pure 7 (.pure 8 (.pure 9 (.read 10 (.alt (.eff 4 (.eff 11 (.eff 12 (.eff 13 (.pure 14 (.pure 15 (.eff 16 .done))))))) (.eff 11 (.alt (.eff 4 (.eff 12 (.eff 13 (.pure 14 (.pure 15 (.eff 16 .done)))))) (.eff 12 (.eff 4 (.eff 13 (.pure 14 (.pure 15 (.eff 16 .done))))))))))))))))))))]
def pl59 : List (Nat × Plan) := [(2, (.pure 0 (.pure 1 (.pure 2 (.pure 4 (.pure 6 (.pure 7 (.pure 8 (.pure 10 (.read 3 (.read 5 (.read 9 (.read 11 (.eff 12 (.eff 13 .done)))))))))))))))]
def pl62 : List (Nat × Plan) := [(1, (.pure 0 (.pure 1 (.pure 2 (.pure 4 (.read 3 (.read 5 (.eff 6 (.pure 7 (.pure 8 (.pure 9 (.pure 10 (.pure 11 .done))))))))))))),
  (2, (.pure 0 (.pure 1 (.pure 2 (.pure 4 (.pure 5 (.pure 6 (.pure 7 (.read 3 (.read 8 (.eff 9 .done))))))))))),
  (4, (.pure 0 (.pure 1 (.pure 2 (.pure 4 (.pure 5 (.pure 6 (.read 3 (.read 7 (.eff 8 .done)))))))))),
  (6, (.pure 0 (.pure 1 (.pure 2 (.pure 4 (.pure 5 (.pure 6 (.pure 7 (.read 3 (.read 8 (.eff 9 .done)))))))))))]
def pl63 : List (Nat × Plan) := [(1, (.pure 0 (.pure 1 (.pure 2 (.pure 4 (.pure 5 (.pure 6 (.read 3 (.read 7 (.eff 8 (.pure 9 (.pure 10 (.pure 11 (.pure 12 (.pure 13 .done))))))))))))))),
  (4, (.pure 0 (.pure 1 (.pure 2 (.pure 4 (.pure 6 (.read 3 (.read 5 (.eff 7 .done)))))))))]
def pl69 : List (Nat × Plan) := [(8, (.pure 0 (.pure 2 (.pure 3 (.pure 4 (.pure 6 (.pure 7 (.pure 8 (.pure 9 (.pure 12 (.pure 13 (.pure 14 (.pure 15 (.pure 19 (.pure 20 (.pure 21 (.read 5 (.read 10 (.read 16 (.read 22 (.alt (.eff 1 (.eff 11 (.eff 17 (.pure 18 (.pure 23 (.eff 24 (.eff 25 (.eff 26 (.pure 27 (.eff 28 .done)))))))))) (.eff 11 (.alt (.eff 1 (.eff 17 (.pure 18 (.pure 23 (.eff 24 (.eff 25 (.eff 26 (.pure 27 (.eff 28 .done))))))))) (.eff 17 (.pure 18 (.pure 23 (.alt (.eff 1 (.eff 24 (.eff 25 (.eff 26 (.pure 27 (.eff 28 .done)))))) (.eff 24 (.alt (.eff 1 (.eff 25 (.eff 26 (.pure 27 (.eff 28 .done))))) (.eff 25 (.eff 1 (.eff 26 (.pure 27 (.eff 28 .done))))))))))))))))))))))))))))))))))]
def pl70 : List (Nat × Plan) := [(14, (.pure 0 (.pure 1 (.pure 2 (.pure 3 (.read 4 (.pure 5 (.pure 6 (.pure 7 (.pure 8 (.pure 9 (.pure 11 (.pure 12 (.pure 13 (.read 10 (.read 14 (.pure 15 (.pure 16 .done)))))))))))))))))),
  (17, (.pure 0 (.pure 1 (.pure 2 (.pure 4 (.pure 7 (.pure 8 (.pure 9 (.pure 11 (.pure 18 (.read 3 (.pure 5 (.read 6 (.pure 21 (.pure 22 (.read 10 (.pure 12 (.read 13 (.pure 14 (.pure 15 (.pure 16 (.read 17 (.eff 19 (.eff 20 (.pure 23 (.eff 24 .done)))))))))))))))))))))))))),
  (18, (.pure 0 (.pure 1 (.pure 2 (.pure 4 (.pure 7 (.pure 8 (.pure 9 (.pure 11 (.pure 18 (.read 3 (.pure 5 (.read 6 (.pure 21 (.pure 22 (.read 10 (.pure 12 (.read 13 (.pure 14 (.pure 15 (.pure 16 (.read 17 (.eff 19 (.eff 20 (.pure 23 (.eff 24 .done))))))))))))))))))))))))))]
def pl74 : List (Nat × Plan) := [(2, (.pure 0 (.pure 1 (.pure 2 (.pure 4 (.read 3 (.read 5 (.eff 6 .done)))))))),
  (5, (.pure 0 (.pure 1 (.pure 2 (.read 3 (.read 4 (.eff 5 (.eff 6 .done)))))))),
  (6, (.pure 0 (.pure 1 (.pure 2 (.pure 4 (.pure 5 (.pure 6 (.pure 8 (.read 3 (.read 7 (.pure 9 (.read 10 (.eff 11 .done)))))))))))))]
def pl76 : List (Nat × Plan) := [(1, (.pure 0 (.pure 2 (.pure 5 (.pure 7 (.read 1 (.read 3 (.read 6 (.read 8 (.eff 4 (.eff 9 (.eff 10 (.eff 11 (.pure 12 .done))))))))))))))]
def pl82 : List (Nat × Plan) := [(1, (.pure 0 (.pure 1 (.pure 3 (.pure 4 (.pure 5 (.pure 6 (.read 2 (.read 7 (.pure 8 (.pure 9 (.pure 10 (.pure 11 (.eff 12 .done))))))))))))))]
def pl84 : List (Nat × Plan) := [(17, (.pure 0 (.pure 1 (.pure 2 (.pure 3 (.pure 4 (.pure 5 (.pure 6 (.pure 8 (.pure 9 (.pure 10 (.read 7 (.read 11 (.eff 12 (.pure 13 (.pure 14 .done))))))))))))))))]
def q89_21_0 : Plan := (.eff 15 (.pure 16 (.pure 17 (.eff 18 (.pure 19 (.pure 20 (.eff 21 .done)))))))
def q89_21_1 : Plan := (.eff 14 q89_21_0)
def q89_21_2 : Plan := (.eff 12 q89_21_0)
def q89_21_3 : Plan := (.eff 8 q89_21_0)
def q89_21_4 : Plan := (.alt (.eff 8 q89_21_1) (.eff 14 q89_21_3))
def q89_21_5 : Plan := (.alt (.eff 8 q89_21_2) (.eff 12 q89_21_3))
def q89_21_6 : Plan := (.alt (.eff 8 (.alt (.eff 12 q89_21_1) (.eff 14 q89_21_2))) (.alt (.eff 12 q89_21_4) (.eff 14 q89_21_5)))
def q89_21_7 : Plan := (.eff 7 q89_21_3)
def q89_21_8 : Plan := (.alt (.eff 7 q89_21_4) (.eff 14 q89_21_7))
def q89_21_9 : Plan := (.alt (.eff 7 q89_21_5) (.eff 12 q89_21_7))
def q89_21_10 : Plan := (.eff 5 q89_21_3)
def q89_21_11 : Plan := (.alt (.eff 5 q89_21_4) (.eff 14 q89_21_10))
def q89_21_12 : Plan := (.alt (.eff 5 q89_21_5) (.eff 12 q89_21_10))
def q89_21_13 : Plan := (.alt (.eff 5 q89_21_7) (.eff 7 q89_21_10))
def q89_22_0 : Plan := (.pure 17 (.eff 18 .done))
def q89_22_1 : Plan := (.eff 16 q89_22_0)
def q89_22_2 : Plan := (.read 14 q89_22_0)
def q89_22_3 : Plan := (.alt (.eff 14 q89_22_1) (.eff 16 q89_22_2))
def q89_22_4 : Plan := (.eff 13 (.pure 15 q89_22_1))
def q89_22_5 : Plan := (.alt (.eff 11 q89_22_1) (.eff 16 (.read 11 q89_22_0)))
def pl89 : List (Nat × Plan) := [(20, (.pure 0 (.pure 1 (.pure 2 (.pure 5 (.read 3 (.pure 4 (.read 6 (.pure 7 .done))))))))),
  (21, (.pure 0 (.pure 1 (.pure 2 (.pure 3 (.pure 4 (.pure 6 (.pure 9 (.pure 10 (.pure 11 (.pure 13 (.alt (.eff 5 (.alt (.eff 7 q89_21_6) (.alt (.eff 12 q89_21_8) (.eff 14 q89_21_9)))) (.alt (.eff 7 (.alt (.eff 5 q89_21_6) (.alt (.eff 12 q89_21_11) (.eff 14 q89_21_12)))) (.alt (.eff 12 (.alt (.eff 5 q89_21_8) (.alt (.eff 7 q89_21_11) (.eff 14 q89_21_13)))) (.eff 14 (.alt (.eff 5 q89_21_9) (.alt (.eff 7 q89_21_12) (.eff 12 q89_21_13)))))))))))))))))),
  (22, (.pure 0 (.pure 1 (.pure 2 (.pure 4 (.pure 6 (.pure 7 (.pure 8 (.pure 10 (.read 3 (.read 5 (.read 9 (.read 12 (.alt (.eff 11 (.alt (.eff 13 (.pure 15 q89_22_3)) (.eff 14 q89_22_4))) (.alt (.eff 13 (.pure 15 (.alt (.eff 11 q89_22_3) (.alt (.eff 14 q89_22_5) (.eff 16 (.read 11 q89_22_2)))))) (.eff 14 (.alt (.eff 11 q89_22_4) (.eff 13 (.pure 15 q89_22_5))))))))))))))))))),
  (23, (.pure 0 (.pure 1 (.pure 2 (.pure 4 (.pure 6 (.read 3 (.read 5 (.read 7 (.eff 8 .done)))))))))),
  (24, (.pure 0 (.pure 1 (.pure 2 (.pure 4 (.read 3 (.read 5 (.eff 6 .done))))))))]
def pl91 : List (Nat × Plan) := [(23, (.pure 0 (.pure 1 (.pure 2 (.pure 4 (.pure 5 (.pure 6 (.pure 7 (.pure 9 (.pure 11 (.read 3 (.read 8 (.read 10 (.eff 12 (.eff 13 (.eff 14 .done))))))))))))))))]
def pl93 : List (Nat × Plan) := [(2, (.pure 0 (.pure 1 (.pure 2 (.pure 3 (.pure 4 (.pure 5 (.pure 7 (.pure 8 (.read 6 (.read 9 (.eff 10 (.pure 11 (.pure 12 .done)))))))))))))),
  (4, (.pure 0 (.pure 1 (.pure 2 (.pure 4 (.read 3 (.read 5 (.eff 6 (.pure 7 (.pure 8 (.pure 9 (.pure 10 (.pure 11 .done))))))))))))),
  (6, (.pure 1 (.pure 2 (.pure 3 (.pure 5 (.pure 6 (.read 0 (.read 4 (.read 7 (.eff 8 (.pure 9 (.pure 10 (.pure 11 (.pure 12 (.pure 13 .done)))))))))))))))]
def pl98 : List (Nat × Plan) := [(13, (.pure 0 (.pure 1 (.pure 2 (.pure 3 (.pure 4 (.pure 5 (.pure 7 (.pure 8 (.pure 12 (.pure 13 (.pure 14 (.read 6 (.pure 9 (.pure 10 (.read 11 (.read 15 (.pure 16 (.pure 17 .done))))))))))))))))))),
  (14, (.pure 0 (.pure 1 (.pure 2 (.pure 4 (.pure 5 (.read 3 (.read 6 (.pure 7 (.eff 8 .done)))))))))),
  (15, (.pure 0 (.pure 1 (.pure 2 (.pure 3 (.read 5 (.alt (.eff 4 (.eff 6 (.eff 7 (.pure 8 (.pure 9 (.eff 10 .done)))))) (.eff 6 (.eff 4 (.eff 7 (.pure 8 (.pure 9 (.eff 10 .done)))))))))))))]
def pl102 : List (Nat × Plan) := [(6, (.pure 0 (.pure 1 (.pure 2 (.pure 4 (.pure 7 (.pure 8 (.pure 9 (.pure 10 (.pure 12 (.pure 19 (.read 3 (.pure 5 (.read 6 (.pure 21 (.pure 22 (.read 11 (.pure 13 (.read 14 (.pure 15 (.pure 16 (.pure 17 (.read 18 (.eff 20 (.pure 23 (.eff 24 .done)))))))))))))))))))))))))),
  (7, (.pure 0 (.pure 1 (.pure 2 (.pure 4 (.pure 7 (.pure 8 (.pure 9 (.pure 10 (.pure 12 (.pure 19 (.read 3 (.pure 5 (.read 6 (.pure 21 (.pure 22 (.read 11 (.pure 13 (.read 14 (.pure 15 (.pure 16 (.pure 17 (.read 18 (.eff 20 (.pure 23 (.eff 24 .done))))))))))))))))))))))))))]
def pl114 : List (Nat × Plan) := [(11, (.pure 0 (.pure 1 (.pure 2 (.pure 4 (.pure 7 (.pure 8 (.pure 9 (.read 3 (.pure 5 (.read 6 (.read 10 (.pure 11 (.pure 12 (.eff 13 .done))))))))))))))),
  (24, (.pure 0 (.pure 1 (.pure 2 (.pure 4 (.pure 5 (.read 3 (.eff 6 (.pure 7 (.read 8 (.pure 9 .done))))))))))),
  (25, (.pure 0 (.pure 1 (.pure 2 (.pure 4 (.pure 5 (.pure 6 (.read 3 (.read 7 (.pure 8 .done))))))))))]
def pl116 : List (Nat × Plan) := [(4, (.pure 0 (.pure 1 (.pure 2 (.pure 6 (.pure 7 (.pure 8 (.read 3 (.pure 4 (.pure 5 (.read 9 (.pure 10 (.pure 11 .done))))))))))))),
  (7, (.pure 0 (.pure 1 (.pure 3 (.pure 4 (.pure 5 (.read 6 (.pure 7 (.eff 2 (.pure 8 (.eff 9 .done)))))))))))]
def pl119 : List (Nat × Plan) := [(4, (.pure 0 (.pure 1 (.pure 2 (.pure 4 (.pure 6 (.pure 7 (.pure 8 (.read 3 (.read 5 (.pure 12 (.read 9 (.pure 10 (.pure 11 (.pure 13 .done)))))))))))))))]
def pl120 : List (Nat × Plan) := [(12, (.pure 0 (.pure 1 (.pure 2 (.pure 4 (.pure 5 (.pure 6 (.pure 7 (.pure 9 (.read 3 (.read 8 (.pure 10 (.read 11 (.pure 12 (.eff 13 .done)))))))))))))))]
def pl124 : List (Nat × Plan) := [(5, (.pure 0 (.pure 1 (.pure 2 (.pure 4 (.pure 6 (.read 3 (.read 5 (.read 7 (.pure 8 (.pure 9 (.pure 10 (.eff 11 .done))))))))))))),
  (6, (.pure 0 (.pure 1 (.pure 2 (.pure 3 (.pure 5 (.read 6 (.alt (.eff 4 (.eff 7 (.eff 8 (.pure 9 (.pure 10 (.eff 11 .done)))))) (.eff 7 (.eff 4 (.eff 8 (.pure 9 (.pure 10 (.eff 11 .done))))))))))))))]
def pl125 : List (Nat × Plan) := [(17, (.pure 0 (.pure 1 (.pure 2 (.pure 3 (.pure 4 (.pure 5 (.pure 6 (.pure 7 (.pure 9 (.pure 10 (.pure 11 (.read 8 (.read 12 (.eff 13 (.pure 14 (.pure 15 (.pure 16 .done))))))))))))))))))]
def pl129 : List (Nat × Plan) := [(9, (.pure 0 (.pure 1 (.pure 2 (.pure 4 (.pure 5 (.read 3 (.read 6 (.pure 7 (.pure 8 (.pure 9 .done)))))))))))]
def pl131 : List (Nat × Plan) := [(4, (.pure 0 (.pure 1 (.pure 2 (.pure 3 (.pure 4 (.pure 5 (.pure 6 (.pure 8 (.pure 9 (.pure 10 (.pure 11 (.read 7 (.read 12 (.eff 13 (.pure 14 .done)))))))))))))))),
  (6, (.pure 0 (.pure 1 (.pure 2 (.pure 3 (.pure 4 (.pure 5 (.pure 6 (.pure 7 (.pure 8 (.pure 10 (.pure 11 (.pure 12 (.read 9 (.read 13 (.pure 14 (.eff 15 (.pure 16 (.eff 17 .done)))))))))))))))))))]
def pl132 : List (Nat × Plan) := [(10, (.pure 0 (.pure 1 (.pure 2 (.pure 3 (.pure 4 (.pure 5 (.pure 6 (.pure 7 (.pure 8 (.pure 9 (.pure 10 (.pure 12 (.pure 13 (.pure 14 (.read 11 (.read 15 (.pure 16 (.eff 17 (.pure 18 (.eff 19 .done)))))))))))))))))))))]
def pl133 : List (Nat × Plan) := [(10, (.pure 0 (.pure 1 (.pure 2 (.pure 3 (.pure 4 (.pure 5 (.pure 6 (.pure 7 (.pure 8 (.pure 9 (.pure 10 (.pure 12 (.pure 13 (.pure 14 (.read 11 (.read 15 (.pure 16 (.eff 17 (.pure 18 (.eff 19 .done)))))))))))))))))))))]
def pl135 : List (Nat × Plan) := [(3, (.pure 0 (.pure 1 (.pure 2 (.pure 3 (.pure 4 (.pure 5 (.pure 6 (.pure 8 (.pure 9 (.pure 10 (.read 7 (.read 11 (.pure 12 (.eff 13 (.pure 14 (.eff 15 .done)))))))))))))))))]
def pl136 : List (Nat × Plan) := [(5, (.pure 0 (.pure 1 (.pure 2 (.pure 3 (.pure 4 (.pure 5 (.pure 6 (.pure 8 (.pure 9 (.pure 10 (.pure 11 (.read 7 (.read 12 (.eff 13 (.pure 14 (.pure 15 .done))))))))))))))))),
  (11, (.pure 0 (.pure 1 (.pure 2 (.pure 3 (.pure 4 (.pure 5 (.pure 6 (.pure 7 (.pure 8 (.pure 10 (.pure 11 (.pure 12 (.read 9 (.read 13 (.pure 14 (.eff 15 (.pure 16 (.eff 17 .done))))))))))))))))))),
  (16, (.pure 0 (.pure 1 (.pure 2 (.pure 4 (.pure 5 (.pure 6 (.pure 7 (.read 3 (.read 8 (.eff 9 (.pure 10 .done)))))))))))),
  (17, (.pure 0 (.pure 1 (.pure 2 (.pure 3 (.pure 4 (.pure 5 (.pure 6 (.pure 7 (.pure 8 (.pure 10 (.pure 11 (.pure 12 (.read 9 (.read 13 (.pure 14 (.eff 15 (.pure 16 (.eff 17 .done))))))))))))))))))),
  (22, (.pure 0 (.pure 1 (.pure 2 (.pure 4 (.pure 5 (.pure 6 (.pure 7 (.read 3 (.read 8 (.eff 9 (.pure 10 .done)))))))))))),
  (23, (.pure 0 (.pure 1 (.pure 2 (.pure 3 (.pure 4 (.pure 5 (.pure 6 (.pure 7 (.pure 8 (.pure 10 (.pure 11 (.pure 12 (.read 9 (.read 13 (.pure 14 (.eff 15 (.pure 16 (.eff 17 .done)))))))))))))))))))]
def pl138 : List (Nat × Plan) := [(1, (.pure 0 (.pure 1 (.pure 2 (.pure 3 (.pure 4 (.pure 5 (.pure 6 (.pure 8 (.pure 9 (.pure 10 (.read 7 (.read 11 (.pure 12 (.eff 13 (.pure 14 (.eff 15 .done))))))))))))))))),
  (3, (.pure 0 (.pure 1 (.pure 2 (.pure 3 (.pure 4 (.pure 5 (.pure 6 (.pure 8 (.pure 9 (.pure 10 (.read 7 (.read 11 (.eff 12 (.pure 13 (.pure 14 .done)))))))))))))))),
  (5, (.pure 0 (.pure 1 (.pure 2 (.pure 3 (.pure 4 (.pure 5 (.pure 6 (.pure 8 (.pure 9 (.pure 10 (.read 7 (.read 11 (.eff 12 (.pure 13 .done))))))))))))))),
  (8, (.pure 0 (.pure 1 (.pure 2 (.pure 3 (.pure 4 (.pure 5 (.pure 6 (.pure 8 (.pure 9 (.pure 10 (.read 7 (.read 11 (.pure 12 (.eff 13 (.pure 14 (.eff 15 .done)))))))))))))))))]
def pl139 : List (Nat × Plan) := [(1, (.pure 0 (.pure 1 (.pure 2 (.pure 3 (.pure 4 (.pure 5 (.pure 6 (.pure 8 (.pure 9 (.pure 10 (.read 7 (.read 11 (.pure 12 (.eff 13 (.pure 14 (.eff 15 .done))))))))))))))))),
  (3, (.pure 0 (.pure 1 (.pure 2 (.pure 3 (.pure 4 (.pure 5 (.pure 6 (.pure 8 (.pure 9 (.pure 10 (.read 7 (.read 11 (.eff 12 (.pure 13 .done))))))))))))))),
  (5, (.pure 0 (.pure 1 (.pure 2 (.pure 3 (.pure 4 (.pure 5 (.pure 6 (.pure 8 (.pure 9 (.pure 10 (.read 7 (.read 11 (.eff 12 (.pure 13 (.pure 14 .done)))))))))))))))),
  (8, (.pure 0 (.pure 1 (.pure 2 (.pure 3 (.pure 4 (.pure 5 (.pure 6 (.pure 8 (.pure 9 (.pure 10 (.read 7 (.read 11 (.pure 12 (.eff 13 (.pure 14 (.eff 15 .done))))))))))))))))),
  (10, (.pure 0 (.pure 1 (.pure 2 (.pure 3 (.pure 4 (.pure 5 (.pure 6 (.pure 8 (.pure 9 (.pure 10 (.read 7 (.read 11 (.pure 12 (.eff 13 (.pure 14 (.eff 15 .done))))))))))))))))),
  (13, (.pure 0 (.pure 1 (.pure 2 (.pure 3 (.pure 4 (.pure 5 (.pure 6 (.pure 8 (.pure 9 (.pure 10 (.read 7 (.read 11 (.eff 12 (.pure 13 .done))))))))))))))),
  (15, (.pure 0 (.pure 1 (.pure 2 (.pure 3 (.pure 4 (.pure 5 (.pure 6 (.pure 8 (.pure 9 (.pure 10 (.read 7 (.read 11 (.eff 12 (.pure 13 (.pure 14 .done)))))))))))))))),
  (18, (.pure 0 (.pure 1 (.pure 2 (.pure 3 (.pure 4 (.pure 5 (.pure 6 (.pure 8 (.pure 9 (.pure 10 (.read 7 (.read 11 (.pure 12 (.eff 13 (.pure 14 (.eff 15 .done))))))))))))))))),
  (21, (.pure 0 (.pure 1 (.pure 2 (.pure 3 (.pure 4 (.pure 5 (.pure 6 (.pure 8 (.pure 9 (.pure 10 (.read 7 (.read 11 (.pure 12 (.eff 13 (.pure 14 (.eff 15 .done)))))))))))))))))]
def pl145 : List (Nat × Plan) := [(6, (.pure 0 (.pure 1 (.pure 2 (.pure 4 (.pure 5 (.pure 6 (.read 3 (.read 7 (.pure 8 .done))))))))))]
def pl146 : List (Nat × Plan) := [(3, (.pure 0 (.pure 1 (.pure 2 (.pure 3 (.pure 5 (.pure 6 (.pure 7 (.pure 8 (.read 4 (.pure 10 (.read 9 (.pure 11 .done)))))))))))))]
def pl150 : List (Nat × Plan) := [(7, (.pure 0 (.pure 1 (.pure 2 (.pure 4 (.pure 5 (.pure 6 (.pure 7 (.pure 9 (.read 3 (.read 8 (.pure 10 (.read 11 (.pure 12 (.pure 13 (.eff 14 .done)))))))))))))))),
  (9, (.pure 0 (.pure 1 (.pure 2 (.pure 5 (.pure 6 (.pure 7 (.read 3 (.pure 4 (.read 8 (.pure 9 (.pure 10 .done))))))))))))]
def pl151 : List (Nat × Plan) := [(1, (.pure 0 (.pure 3 (.alt (.eff 1 (.alt (.eff 2 (.eff 4 (.pure 6 (.eff 5 (.eff 7 (.pure 8 (.eff 9 .done))))))) (.eff 4 (.eff 2 (.pure 6 (.eff 5 (.eff 7 (.pure 8 (.eff 9 .done))))))))) (.eff 4 (.eff 1 (.eff 2 (.pure 6 (.eff 5 (.eff 7 (.pure 8 (.eff 9 .done))))))))))))]
def pl152 : List (Nat × Plan) := [(9, (.pure 0 (.pure 1 (.pure 2 (.pure 6 (.pure 7 (.pure 8 (.read 3 (.pure 4 (.pure 5 (.read 9 (.pure 10 (.pure 11 (.pure 12 .done))))))))))))))]
def pl157 : List (Nat × Plan) := [(11, (.pure 0 (.pure 1 (.pure 2 (.pure 4 (.pure 5 (.pure 6 (.read 3 (.read 7 (.pure 8 .done)))))))))),
  (15, (.pure 0 (.pure 1 (.pure 2 (.pure 3 (.pure 7 (.pure 8 (.pure 9 (.alt (.eff 4 (.pure 5 (.read 6 (.pure 12 (.eff 10 (.pure 11 (.pure 13 (.pure 14 (.eff 15 .done))))))))) (.eff 10 (.pure 11 (.eff 4 (.pure 5 (.read 6 (.pure 12 (.pure 13 (.pure 14 (.eff 15 .done)))))))))))))))))),
  (19, (.pure 0 (.pure 1 (.pure 2 (.pure 4 (.pure 5 (.pure 6 (.read 3 (.read 7 (.pure 8 (.pure 9 .done))))))))))),
  (23, (.pure 0 (.pure 1 (.pure 2 (.pure 4 (.pure 5 (.pure 6 (.pure 7 (.pure 9 (.read 3 (.read 8 (.pure 10 (.pure 11 (.eff 12 (.pure 13 (.eff 14 .done))))))))))))))))]
def pl167 : List (Nat × Plan) := [(5, (.pure 0 (.pure 1 (.pure 2 (.pure 3 (.pure 5 (.pure 6 (.pure 7 (.read 8 (.pure 9 (.pure 10 (.read 11 (.eff 4 (.pure 12 (.pure 13 (.pure 14 (.eff 15 .done)))))))))))))))))]
def pl170 : List (Nat × Plan) := [(17, (.pure 0 (.pure 1 (.pure 2 (.pure 3 (.pure 4 (.pure 5 .done)))))))]
def pl174 : List (Nat × Plan) := [(4, (.pure 0 (.pure 1 (.pure 2 (.pure 3 (.pure 6 (.pure 7 (.pure 8 (.pure 9 (.read 4 (.pure 5 (.read 10 (.pure 11 (.pure 12 (.pure 13 .done))))))))))))))),
  (17, (.pure 0 (.pure 1 (.pure 2 (.pure 3 (.pure 4 (.pure 6 (.pure 7 (.pure 8 (.pure 9 (.read 5 (.read 10 (.pure 11 (.eff 12 .done))))))))))))))]
def pl176 : List (Nat × Plan) := [(3, (.pure 0 (.pure 1 (.pure 2 (.pure 4 (.pure 5 (.pure 6 (.read 3 (.pure 8 (.read 7 (.pure 9 .done)))))))))))]
def pl179 : List (Nat × Plan) := [(1, (.pure 0 (.pure 1 (.pure 2 (.pure 4 (.pure 6 (.pure 7 (.pure 8 (.read 3 (.read 9 (.pure 10 (.pure 11 (.eff 5 (.pure 12 (.pure 13 .done))))))))))))))),
  (2, (.pure 0 (.pure 1 (.pure 2 (.pure 4 (.read 3 (.pure 5 (.read 6 (.pure 7 (.pure 8 (.pure 9 (.pure 10 (.pure 11 (.pure 13 (.pure 14 (.pure 15 (.pure 17 (.pure 26 (.read 12 (.read 16 (.pure 18 (.read 19 (.pure 20 (.pure 21 (.read 22 (.pure 23 (.pure 24 (.read 25 (.pure 27 (.pure 28 .done))))))))))))))))))))))))))))))]
def pl183 : List (Nat × Plan) := [(0, (.pure 0 (.pure 1 (.pure 2 (.pure 4 (.pure 5 (.pure 6 (.pure 7 (.pure 9 (.pure 10 (.pure 11 (.pure 12 (.pure 14 (.pure 17 (.pure 18 (.pure 19 (.pure 21 (.read 3 (.read 8 (.read 13 (.pure 15 (.read 16 (.read 20 (.pure 22 (.read 23 (.pure 24 (.eff 25 (.pure 26 (.eff 27 .done))))))))))))))))))))))))))))),
  (1, (.pure 0 (.pure 1 (.pure 2 (.pure 4 (.pure 5 (.pure 6 (.pure 8 (.pure 12 (.pure 13 (.pure 14 (.pure 16 (.pure 17 (.pure 18 (.pure 20 (.pure 24 (.pure 25 (.read 3 (.read 15 (.read 19 (.pure 21 (.pure 22 (.read 23 (.eff 7 (.pure 9 (.pure 10 (.read 11 (.eff 26 (.pure 27 (.eff 28 (.eff 29 (.pure 30 (.eff 31 .done)))))))))))))))))))))))))))))))))]
def pl187 : List (Nat × Plan) := [(1, (.pure 0 (.pure 1 (.pure 2 (.pure 4 (.pure 6 (.pure 7 (.pure 8 (.read 3 (.read 9 (.pure 10 (.eff 5 (.eff 11 (.pure 12 (.pure 13 (.pure 14 (.pure 15 (.pure 16 .done))))))))))))))))))]
def pl188 : List (Nat × Plan) := [(7, (.pure 0 (.pure 1 (.pure 2 (.pure 4 (.read 3 (.read 5 (.pure 6 (.eff 7 .done)))))))))]
def pl190 : List (Nat × Plan) := [(2, (.pure 0 (.pure 1 (.pure 2 (.pure 4 (.read 3 (.read 5 (.eff 6 .done)))))))),
  (5, (.pure 0 (.pure 1 (.pure 2 (.pure 4 (.read 3 (.read 5 (.eff 6 .done))))))))]
def pl196 : List (Nat × Plan) := [(4, (.pure 0 (.pure 1 (.pure 2 (.pure 3 (.pure 4 (.pure 5 (.pure 6 (.pure 7 (.pure 9 (.pure 10 (.pure 11 (.pure 12 (.read 8 (.read 13 (.eff 14 (.pure 15 (.pure 16 .done)))))))))))))))))),
  (6, (.pure 0 (.pure 1 (.pure 2 (.pure 3 (.pure 4 (.pure 5 (.pure 6 (.pure 7 (.pure 8 (.pure 10 (.pure 11 (.pure 12 (.read 9 (.read 13 (.pure 14 (.eff 15 (.pure 16 (.eff 17 .done)))))))))))))))))))]
def pl197 : List (Nat × Plan) := [(10, (.pure 0 (.pure 1 (.pure 2 (.pure 3 (.pure 4 (.pure 5 (.pure 6 (.pure 7 (.pure 8 (.pure 9 (.pure 10 (.pure 12 (.pure 13 (.pure 14 (.read 11 (.read 15 (.pure 16 (.eff 17 (.pure 18 (.eff 19 .done)))))))))))))))))))))]
def pl198 : List (Nat × Plan) := [(10, (.pure 0 (.pure 1 (.pure 2 (.pure 3 (.pure 4 (.pure 5 (.pure 6 (.pure 7 (.pure 8 (.pure 9 (.pure 10 (.pure 12 (.pure 13 (.pure 14 (.read 11 (.read 15 (.pure 16 (.eff 17 (.pure 18 (.eff 19 .done)))))))))))))))))))))]
def pl200 : List (Nat × Plan) := [(3, (.pure 0 (.pure 1 (.pure 2 (.pure 3 (.pure 4 (.pure 5 (.pure 6 (.pure 8 (.pure 9 (.pure 10 (.read 7 (.read 11 (.pure 12 (.eff 13 (.pure 14 (.eff 15 .done)))))))))))))))))]
def pl201 : List (Nat × Plan) := [(5, (.pure 0 (.pure 1 (.pure 2 (.pure 3 (.pure 4 (.pure 5 (.pure 6 (.pure 7 (.pure 9 (.pure 10 (.pure 11 (.pure 12 (.read 8 (.read 13 (.eff 14 (.pure 15 (.pure 16 (.pure 17 .done))))))))))))))))))),
  (11, (.pure 0 (.pure 1 (.pure 2 (.pure 3 (.pure 4 (.pure 5 (.pure 6 (.pure 7 (.pure 8 (.pure 10 (.pure 11 (.pure 12 (.read 9 (.read 13 (.pure 14 (.eff 15 (.pure 16 (.eff 17 .done))))))))))))))))))),
  (16, (.pure 0 (.pure 1 (.pure 2 (.pure 3 (.pure 5 (.pure 6 (.pure 7 (.pure 8 (.read 4 (.read 9 (.eff 10 (.pure 11 (.pure 12 .done)))))))))))))),
  (17, (.pure 0 (.pure 1 (.pure 2 (.pure 3 (.pure 4 (.pure 5 (.pure 6 (.pure 7 (.pure 8 (.pure 10 (.pure 11 (.pure 12 (.read 9 (.read 13 (.pure 14 (.eff 15 (.pure 16 (.eff 17 .done))))))))))))))))))),
  (22, (.pure 0 (.pure 1 (.pure 2 (.pure 3 (.pure 5 (.pure 6 (.pure 7 (.pure 8 (.read 4 (.read 9 (.eff 10 (.pure 11 (.pure 12 .done)))))))))))))),
  (23, (.pure 0 (.pure 1 (.pure 2 (.pure 3 (.pure 4 (.pure 5 (.pure 6 (.pure 7 (.pure 8 (.pure 10 (.pure 11 (.pure 12 (.read 9 (.read 13 (.pure 14 (.eff 15 (.pure 16 (.eff 17 .done)))))))))))))))))))]
def pl202 : List (Nat × Plan) := [(1, (.pure 0 (.pure 1 (.pure 2 (.pure 3 (.pure 4 (.pure 5 (.pure 6 (.pure 8 (.pure 9 (.pure 10 (.read 7 (.read 11 (.pure 12 (.eff 13 (.pure 14 (.eff 15 .done))))))))))))))))),
  (3, (.pure 0 (.pure 1 (.pure 2 (.pure 3 (.pure 4 (.pure 5 (.pure 6 (.pure 7 (.pure 9 (.pure 10 (.pure 11 (.read 8 (.read 12 (.eff 13 (.pure 14 (.pure 15 (.pure 16 .done)))))))))))))))))),
  (5, (.pure 0 (.pure 1 (.pure 2 (.pure 3 (.pure 4 (.pure 5 (.pure 6 (.pure 7 (.pure 9 (.pure 10 (.pure 11 (.read 8 (.read 12 (.eff 13 (.pure 14 (.pure 15 .done))))))))))))))))),
  (8, (.pure 0 (.pure 1 (.pure 2 (.pure 3 (.pure 4 (.pure 5 (.pure 6 (.pure 8 (.pure 9 (.pure 10 (.read 7 (.read 11 (.pure 12 (.eff 13 (.pure 14 (.eff 15 .done)))))))))))))))))]
def pl203 : List (Nat × Plan) := [(1, (.pure 0 (.pure 1 (.pure 2 (.pure 3 (.pure 4 (.pure 5 (.pure 6 (.pure 8 (.pure 9 (.pure 10 (.read 7 (.read 11 (.pure 12 (.eff 13 (.pure 14 (.eff 15 .done))))))))))))))))),
  (3, (.pure 0 (.pure 1 (.pure 2 (.pure 3 (.pure 4 (.pure 5 (.pure 6 (.pure 7 (.pure 9 (.pure 10 (.pure 11 (.read 8 (.read 12 (.eff 13 (.pure 14 (.pure 15 .done))))))))))))))))),
  (5, (.pure 0 (.pure 1 (.pure 2 (.pure 3 (.pure 4 (.pure 5 (.pure 6 (.pure 7 (.pure 9 (.pure 10 (.pure 11 (.read 8 (.read 12 (.eff 13 (.pure 14 (.pure 15 (.pure 16 .done)))))))))))))))))),
  (8, (.pure 0 (.pure 1 (.pure 2 (.pure 3 (.pure 4 (.pure 5 (.pure 6 (.pure 8 (.pure 9 (.pure 10 (.read 7 (.read 11 (.pure 12 (.eff 13 (.pure 14 (.eff 15 .done))))))))))))))))),
  (10, (.pure 0 (.pure 1 (.pure 2 (.pure 3 (.pure 4 (.pure 5 (.pure 6 (.pure 8 (.pure 9 (.pure 10 (.read 7 (.read 11 (.pure 12 (.eff 13 (.pure 14 (.eff 15 .done))))))))))))))))),
  (13, (.pure 0 (.pure 1 (.pure 2 (.pure 3 (.pure 4 (.pure 5 (.pure 6 (.pure 7 (.pure 9 (.pure 10 (.pure 11 (.read 8 (.read 12 (.eff 13 (.pure 14 (.pure 15 .done))))))))))))))))),
  (15, (.pure 0 (.pure 1 (.pure 2 (.pure 3 (.pure 4 (.pure 5 (.pure 6 (.pure 7 (.pure 9 (.pure 10 (.pure 11 (.read 8 (.read 12 (.eff 13 (.pure 14 (.pure 15 (.pure 16 .done)))))))))))))))))),
  (18, (.pure 0 (.pure 1 (.pure 2 (.pure 3 (.pure 4 (.pure 5 (.pure 6 (.pure 8 (.pure 9 (.pure 10 (.read 7 (.read 11 (.pure 12 (.eff 13 (.pure 14 (.eff 15 .done))))))))))))))))),
  (21, (.pure 0 (.pure 1 (.pure 2 (.pure 3 (.pure 4 (.pure 5 (.pure 6 (.pure 8 (.pure 9 (.pure 10 (.read 7 (.read 11 (.pure 12 (.eff 13 (.pure 14 (.eff 15 .done)))))))))))))))))]
def pl205 : List (Nat × Plan) := [(1, (.pure 0 (.pure 1 (.pure 2 (.pure 4 (.pure 5 (.pure 6 (.pure 8 (.pure 10 (.pure 11 (.pure 12 (.read 3 (.read 7 (.read 13 (.pure 14 (.pure 15 (.eff 9 (.pure 16 (.pure 17 (.pure 18 .done))))))))))))))))))))]
def pl207 : List (Nat × Plan) := [(11, (.pure 0 (.pure 1 (.pure 2 (.pure 3 (.pure 4 (.pure 5 (.pure 6 (.pure 7 (.eff 8 .done)))))))))),
  (15, (.pure 0 (.pure 1 (.pure 2 (.pure 3 (.pure 4 (.pure 5 (.pure 6 (.pure 7 (.eff 8 .done))))))))))]
def pl208 : List (Nat × Plan) := [(3, (.pure 0 (.pure 1 (.pure 2 (.pure 3 (.pure 4 (.pure 5 (.pure 6 (.pure 7 (.pure 8 (.pure 9 (.pure 11 (.pure 12 (.pure 13 (.pure 14 (.pure 15 (.pure 16 (.read 10 (.read 17 (.eff 18 (.pure 19 .done))))))))))))))))))))),
  (5, (.pure 0 (.pure 1 (.pure 2 (.pure 3 (.pure 4 (.pure 6 (.pure 7 (.pure 8 (.pure 9 (.pure 10 (.read 5 (.read 11 (.eff 12 (.pure 13 .done))))))))))))))),
  (6, (.pure 0 (.pure 1 (.pure 2 (.pure 3 (.pure 4 (.pure 5 (.pure 6 (.pure 7 (.pure 8 (.pure 9 (.pure 10 (.pure 11 (.pure 12 (.pure 14 (.pure 15 (.pure 16 (.pure 17 (.pure 18 (.read 13 (.read 19 (.pure 20 (.eff 21 (.pure 22 (.eff 23 .done)))))))))))))))))))))))))]
def pl210 : List (Nat × Plan) := [(1, (.pure 0 (.pure 1 (.pure 3 (.pure 4 (.read 2 (.read 5 (.pure 6 (.pure 7 (.pure 8 (.eff 9 .done))))))))))),
  (2, (.pure 0 (.pure 1 (.pure 3 (.pure 4 (.read 2 (.read 5 (.pure 6 (.pure 7 (.pure 8 (.eff 9 .done))))))))))),
  (3, (.pure 0 (.pure 1 (.pure 3 (.pure 4 (.read 2 (.read 5 (.pure 6 (.pure 7 (.pure 8 (.eff 9 .done)))))))))))]
def pl216 : List (Nat × Plan) := [(17, (.pure 0 (.pure 1 (.pure 2 (.pure 3 (.pure 4 (.pure 5 (.pure 6 (.pure 8 (.pure 9 (.pure 10 (.read 7 (.read 11 (.eff 12 (.pure 13 (.pure 14 .done))))))))))))))))]
def pl219 : List (Nat × Plan) := [(3, (.pure 0 (.pure 1 (.pure 2 (.pure 3 (.pure 5 (.pure 6 (.pure 7 (.pure 8 (.read 4 (.pure 10 (.read 9 (.pure 11 .done)))))))))))))]
def pl226 : List (Nat × Plan) := [(4, (.pure 0 (.pure 1 (.pure 2 (.pure 4 (.pure 5 (.pure 6 (.pure 7 (.read 3 (.read 8 (.pure 9 (.eff 10 .done))))))))))))]
def pl231 : List (Nat × Plan) := [(3, (.pure 0 (.pure 1 (.pure 2 (.pure 4 (.pure 5 (.pure 6 (.pure 8 (.read 3 (.read 7 (.eff 9 (.pure 10 (.pure 11 .done)))))))))))))]
def pl232 : List (Nat × Plan) := [(6, (.pure 0 (.pure 1 (.pure 2 (.pure 4 (.pure 5 (.pure 6 (.pure 7 (.read 3 (.read 8 (.pure 9 .done))))))))))),
  (11, (.pure 0 (.pure 1 (.pure 2 (.pure 4 (.pure 5 (.pure 6 (.pure 7 (.read 3 (.read 8 (.pure 9 .done)))))))))))]
def pl239 : List (Nat × Plan) := [(1, (.pure 0 (.pure 2 (.pure 3 (.pure 4 (.pure 7 (.pure 8 (.pure 9 (.read 1 (.read 5 (.read 10 (.eff 6 (.eff 11 (.pure 12 .done))))))))))))))]
def pl241 : List (Nat × Plan) := [(6, (.pure 1 (.pure 2 (.pure 3 (.read 0 (.read 4 (.eff 5 .done)))))))]
def pl244 : List (Nat × Plan) := [(11, (.pure 0 (.pure 1 (.pure 2 (.pure 3 (.pure 4 (.pure 5 (.pure 6 (.pure 7 (.eff 8 .done)))))))))),
  (15, (.pure 0 (.pure 1 (.pure 2 (.pure 3 (.pure 4 (.pure 5 (.pure 6 (.pure 7 (.eff 8 .done))))))))))]
def pl245 : List (Nat × Plan) := [(5, (.pure 0 (.pure 1 (.pure 2 (.pure 3 (.pure 4 (.pure 5 (.pure 6 .done))))))))]
def q246_4_0 : Plan := (.eff 18 (.pure 19 (.pure 20 (.eff 21 .done))))
def q246_4_1 : Plan := (.eff 10 q246_4_0)
def q246_4_2 : Plan := (.alt (.eff 10 (.eff 14 (.pure 17 q246_4_0))) (.eff 14 (.pure 17 q246_4_1)))
def q246_4_3 : Plan := (.eff 9 q246_4_1)
def q246_4_4 : Plan := (.eff 4 (.pure 7 q246_4_1))
def pl246 : List (Nat × Plan) := [(4, (.pure 0 (.pure 1 (.pure 2 (.pure 3 (.pure 5 (.pure 6 (.pure 8 (.pure 11 (.pure 12 (.pure 13 (.pure 15 (.pure 16 (.alt (.eff 4 (.pure 7 (.alt (.eff 9 q246_4_2) (.eff 14 (.pure 17 q246_4_3))))) (.alt (.eff 9 (.alt (.eff 4 (.pure 7 q246_4_2)) (.eff 14 (.pure 17 q246_4_4)))) (.eff 14 (.pure 17 (.alt (.eff 4 (.pure 7 q246_4_3)) (.eff 9 q246_4_4)))))))))))))))))))]
def pl252 : List (Nat × Plan) := [(1, (.pure 0 (.pure 1 (.pure 2 (.pure 4 (.pure 7 (.pure 8 (.pure 9 (.pure 11 (.read 3 (.pure 5 (.read 6 (.read 10 (.pure 12 (.read 13 (.eff 14 (.pure 15 (.pure 16 .done))))))))))))))))))]
def pl259 : List (Nat × Plan) := [(3, (.pure 0 (.pure 1 (.pure 2 (.pure 3 (.pure 4 (.pure 5 (.pure 6 (.pure 7 (.pure 8 (.pure 9 (.pure 10 (.pure 12 (.pure 13 (.pure 14 (.pure 15 (.pure 16 (.pure 17 (.read 11 (.read 18 (.eff 19 (.pure 20 (.pure 21 .done))))))))))))))))))))))),
  (5, (.pure 0 (.pure 1 (.pure 2 (.pure 3 (.pure 4 (.pure 5 (.pure 7 (.pure 8 (.pure 9 (.pure 10 (.pure 11 (.read 6 (.read 12 (.eff 13 (.pure 14 (.pure 15 .done))))))))))))))))),
  (6, (.pure 0 (.pure 1 (.pure 2 (.pure 3 (.pure 4 (.pure 5 (.pure 6 (.pure 7 (.pure 8 (.pure 9 (.pure 10 (.pure 11 (.pure 12 (.pure 14 (.pure 15 (.pure 16 (.pure 17 (.pure 18 (.read 13 (.read 19 (.pure 20 (.eff 21 (.pure 22 (.eff 23 .done)))))))))))))))))))))))))]
def pl265 : List (Nat × Plan) := [(1, (.pure 0 (.pure 1 (.pure 2 (.pure 4 (.pure 5 (.pure 6 (.read 3 (.read 7 (.eff 8 .done))))))))))]
def pl269 : List (Nat × Plan) := [(4, (.pure 0 (.pure 1 (.pure 2 (.pure 3 (.pure 4 (.pure 5 (.pure 6 (.pure 8 (.pure 9 (.pure 10 (.pure 11 (.read 7 (.read 12 (.eff 13 (.pure 14 .done)))))))))))))))),
  (6, (.pure 0 (.pure 1 (.pure 2 (.pure 3 (.pure 4 (.pure 5 (.pure 6 (.pure 7 (.pure 8 (.pure 10 (.pure 11 (.pure 12 (.read 9 (.read 13 (.pure 14 (.eff 15 (.pure 16 (.eff 17 .done)))))))))))))))))))]
def pl270 : List (Nat × Plan) := [(10, (.pure 0 (.pure 1 (.pure 2 (.pure 3 (.pure 4 (.pure 5 (.pure 6 (.pure 7 (.pure 8 (.pure 9 (.pure 10 (.pure 12 (.pure 13 (.pure 14 (.read 11 (.read 15 (.pure 16 (.eff 17 (.pure 18 (.eff 19 .done)))))))))))))))))))))]
def pl271 : List (Nat × Plan) := [(10, (.pure 0 (.pure 1 (.pure 2 (.pure 3 (.pure 4 (.pure 5 (.pure 6 (.pure 7 (.pure 8 (.pure 9 (.pure 10 (.pure 12 (.pure 13 (.pure 14 (.read 11 (.read 15 (.pure 16 (.eff 17 (.pure 18 (.eff 19 .done)))))))))))))))))))))]
def pl273 : List (Nat × Plan) := [(3, (.pure 0 (.pure 1 (.pure 2 (.pure 3 (.pure 4 (.pure 5 (.pure 6 (.pure 8 (.pure 9 (.pure 10 (.read 7 (.read 11 (.pure 12 (.eff 13 (.pure 14 (.eff 15 .done)))))))))))))))))]
def pl274 : List (Nat × Plan) := [(5, (.pure 0 (.pure 1 (.pure 2 (.pure 3 (.pure 4 (.pure 5 (.pure 6 (.pure 8 (.pure 9 (.pure 10 (.pure 11 (.read 7 (.read 12 (.eff 13 (.pure 14 (.pure 15 .done))))))))))))))))),
  (11, (.pure 0 (.pure 1 (.pure 2 (.pure 3 (.pure 4 (.pure 5 (.pure 6 (.pure 7 (.pure 8 (.pure 10 (.pure 11 (.pure 12 (.read 9 (.read 13 (.pure 14 (.eff 15 (.pure 16 (.eff 17 .done))))))))))))))))))),
  (16, (.pure 0 (.pure 1 (.pure 2 (.pure 4 (.pure 5 (.pure 6 (.pure 7 (.read 3 (.read 8 (.eff 9 (.pure 10 .done)))))))))))),
  (17, (.pure 0 (.pure 1 (.pure 2 (.pure 3 (.pure 4 (.pure 5 (.pure 6 (.pure 7 (.pure 8 (.pure 10 (.pure 11 (.pure 12 (.read 9 (.read 13 (.pure 14 (.eff 15 (.pure 16 (.eff 17 .done))))))))))))))))))),
  (22, (.pure 0 (.pure 1 (.pure 2 (.pure 4 (.pure 5 (.pure 6 (.pure 7 (.read 3 (.read 8 (.eff 9 (.pure 10 .done)))))))))))),
  (23, (.pure 0 (.pure 1 (.pure 2 (.pure 3 (.pure 4 (.pure 5 (.pure 6 (.pure 7 (.pure 8 (.pure 10 (.pure 11 (.pure 12 (.read 9 (.read 13 (.pure 14 (.eff 15 (.pure 16 (.eff 17 .done)))))))))))))))))))]
def pl276 : List (Nat × Plan) := [(1, (.pure 0 (.pure 1 (.pure 2 (.pure 3 (.pure 4 (.pure 5 (.pure 6 (.pure 8 (.pure 9 (.pure 10 (.read 7 (.read 11 (.pure 12 (.eff 13 (.pure 14 (.eff 15 .done))))))))))))))))),
  (3, (.pure 0 (.pure 1 (.pure 2 (.pure 3 (.pure 4 (.pure 5 (.pure 6 (.pure 8 (.pure 9 (.pure 10 (.read 7 (.read 11 (.eff 12 (.pure 13 (.pure 14 .done)))))))))))))))),
  (5, (.pure 0 (.pure 1 (.pure 2 (.pure 3 (.pure 4 (.pure 5 (.pure 6 (.pure 8 (.pure 9 (.pure 10 (.read 7 (.read 11 (.eff 12 (.pure 13 .done))))))))))))))),
  (8, (.pure 0 (.pure 1 (.pure 2 (.pure 3 (.pure 4 (.pure 5 (.pure 6 (.pure 8 (.pure 9 (.pure 10 (.read 7 (.read 11 (.pure 12 (.eff 13 (.pure 14 (.eff 15 .done)))))))))))))))))]
def pl277 : List (Nat × Plan) := [(1, (.pure 0 (.pure 1 (.pure 2 (.pure 3 (.pure 4 (.pure 5 (.pure 6 (.pure 8 (.pure 9 (.pure 10 (.read 7 (.read 11 (.pure 12 (.eff 13 (.pure 14 (.eff 15 .done))))))))))))))))),
  (3, (.pure 0 (.pure 1 (.pure 2 (.pure 3 (.pure 4 (.pure 5 (.pure 6 (.pure 8 (.pure 9 (.pure 10 (.read 7 (.read 11 (.eff 12 (.pure 13 .done))))))))))))))),
  (5, (.pure 0 (.pure 1 (.pure 2 (.pure 3 (.pure 4 (.pure 5 (.pure 6 (.pure 8 (.pure 9 (.pure 10 (.read 7 (.read 11 (.eff 12 (.pure 13 (.pure 14 .done)))))))))))))))),
  (8, (.pure 0 (.pure 1 (.pure 2 (.pure 3 (.pure 4 (.pure 5 (.pure 6 (.pure 8 (.pure 9 (.pure 10 (.read 7 (.read 11 (.pure 12 (.eff 13 (.pure 14 (.eff 15 .done))))))))))))))))),
  (10, (.pure 0 (.pure 1 (.pure 2 (.pure 3 (.pure 4 (.pure 5 (.pure 6 (.pure 8 (.pure 9 (.pure 10 (.read 7 (.read 11 (.pure 12 (.eff 13 (.pure 14 (.eff 15 .done))))))))))))))))),
  (13, (.pure 0 (.pure 1 (.pure 2 (.pure 3 (.pure 4 (.pure 5 (.pure 6 (.pure 8 (.pure 9 (.pure 10 (.read 7 (.read 11 (.eff 12 (.pure 13 .done))))))))))))))),
  (15, (.pure 0 (.pure 1 (.pure 2 (.pure 3 (.pure 4 (.pure 5 (.pure 6 (.pure 8 (.pure 9 (.pure 10 (.read 7 (.read 11 (.eff 12 (.pure 13 (.pure 14 .done)))))))))))))))),
  (18, (.pure 0 (.pure 1 (.pure 2 (.pure 3 (.pure 4 (.pure 5 (.pure 6 (.pure 8 (.pure 9 (.pure 10 (.read 7 (.read 11 (.pure 12 (.eff 13 (.pure 14 (.eff 15 .done))))))))))))))))),
  (21, (.pure 0 (.pure 1 (.pure 2 (.pure 3 (.pure 4 (.pure 5 (.pure 6 (.pure 8 (.pure 9 (.pure 10 (.read 7 (.read 11 (.pure 12 (.eff 13 (.pure 14 (.eff 15 .done)))))))))))))))))]
def pl279 : List (Nat × Plan) := [(9, (.pure 0 (.pure 1 (.pure 2 (.pure 3 (.pure 4 (.pure 5 (.pure 6 (.eff 7 (.pure 8 (.pure 9 .done)))))))))))]
def pl284 : List (Nat × Plan) := [(7, (.pure 0 (.pure 1 (.pure 2 (.pure 3 (.pure 5 (.pure 6 (.pure 7 (.read 4 (.read 8 (.eff 9 (.pure 10 (.eff 11 (.pure 12 .done))))))))))))))]
def pl286 : List (Nat × Plan) := [(3, (.pure 1 (.pure 2 (.pure 3 (.pure 4 (.read 5 (.pure 6 (.alt (.eff 0 (.eff 7 (.eff 8 (.eff 9 .done)))) (.eff 7 (.eff 0 (.eff 8 (.eff 9 .done))))))))))))]
def pl290 : List (Nat × Plan) := [(3, (.pure 0 (.pure 1 (.pure 2 (.pure 3 (.pure 5 (.pure 6 (.pure 7 (.read 4 (.read 8 (.eff 9 .done)))))))))))]
def pl297 : List (Nat × Plan) := [(1, (.pure 0 (.pure 2 (.pure 5 (.pure 7 (.read 1 (.read 3 (.read 6 (.read 8 (.eff 4 (.eff 9 (.eff 10 (.eff 11 (.pure 12 .done))))))))))))))]
def pl298 : List (Nat × Plan) := [(1, (.pure 0 (.pure 1 (.pure 2 (.pure 3 (.pure 5 (.pure 6 (.pure 7 (.read 4 (.read 8 (.eff 9 (.pure 10 .done))))))))))))]
def pl301 : List (Nat × Plan) := [(3, (.pure 0 (.pure 1 (.pure 2 (.pure 3 (.pure 4 (.pure 5 (.pure 6 (.pure 7 (.pure 8 (.pure 9 (.pure 11 (.pure 12 (.pure 13 (.pure 14 (.pure 15 (.pure 16 (.read 10 (.read 17 (.eff 18 (.pure 19 .done))))))))))))))))))))),
  (5, (.pure 0 (.pure 1 (.pure 2 (.pure 3 (.pure 4 (.pure 6 (.pure 7 (.pure 8 (.pure 9 (.pure 10 (.read 5 (.read 11 (.eff 12 (.pure 13 .done))))))))))))))),
  (6, (.pure 0 (.pure 1 (.pure 2 (.pure 3 (.pure 4 (.pure 5 (.pure 6 (.pure 7 (.pure 8 (.pure 9 (.pure 10 (.pure 11 (.pure 12 (.pure 14 (.pure 15 (.pure 16 (.pure 17 (.pure 18 (.read 13 (.read 19 (.pure 20 (.eff 21 (.pure 22 (.eff 23 .done)))))))))))))))))))))))))]
def pl305 : List (Nat × Plan) := [(6, (.pure 0 (.pure 1 (.pure 2 (.pure 3 (.pure 4 (.pure 5 (.pure 6 (.pure 7 (.pure 8 (.pure 10 (.read 9 (.pure 11 (.read 12 (.pure 13 (.pure 14 (.read 15 (.eff 16 (.pure 17 (.pure 18 .done))))))))))))))))))))]
def pl309 : List (Nat × Plan) := [(7, (.pure 0 (.pure 1 (.pure 2 (.pure 3 (.pure 5 (.pure 6 (.pure 7 (.alt (.eff 4 (.eff 8 (.pure 9 (.pure 10 (.pure 11 (.eff 12 .done)))))) (.eff 8 (.eff 4 (.pure 9 (.pure 10 (.pure 11 (.eff 12 .done)))))))))))))))]
def pl312 : List (Nat × Plan) := [(3, (.pure 0 (.pure 1 (.pure 2 (.pure 3 (.pure 4 (.pure 5 (.pure 6 (.pure 8 (.pure 9 (.pure 10 (.read 7 (.read 11 (.pure 12 (.eff 13 (.pure 14 (.eff 15 .done)))))))))))))))))]
def pl313 : List (Nat × Plan) := [(1, (.pure 0 (.pure 1 (.pure 2 (.pure 4 (.pure 5 (.pure 6 (.read 3 (.read 7 (.eff 8 .done))))))))))]
def pl316 : List (Nat × Plan) := [(5, (.pure 0 (.pure 1 (.pure 2 (.pure 3 (.pure 4 (.pure 5 (.eff 6 (.pure 7 .done)))))))))]
def pl317 : List (Nat × Plan) := [(3, (.pure 0 (.pure 1 (.pure 2 (.pure 3 (.pure 4 (.pure 5 (.pure 6 (.pure 8 (.pure 9 (.pure 10 (.read 7 (.read 11 (.pure 12 (.eff 13 (.pure 14 (.eff 15 .done)))))))))))))))))]
def plTbl : Tr (List (Nat × Plan)) := (.n none (.n none (.n none (.n none (.n none (.n none (.n (some pl63) .e .e) .e) (.n none (.n none (.n none (.n (some pl271) .e .e) .e) (.n (some pl207) .e .e)) (.n none .e (.n (some pl239) .e .e)))) (.n none (.n none (.n none (.n (some pl135) .e .e) .e) (.n none (.n (some pl167) .e .e) (.n (some pl231) .e .e))) (.n none (.n none (.n (some pl151) (.n (some pl279) .e .e) .e) .e) (.n (some pl119) (.n (some pl183) .e .e) .e)))) (.n none (.n (some pl19) (.n none (.n none (.n (some pl131) (.n (some pl259) .e .e) .e) .e) .e) (.n none .e (.n none (.n (some pl179) .e .e) .e))) (.n none (.n none (.n none (.n (some pl139) .e .e) (.n (some pl203) .e .e)) .e) (.n (some pl59) (.n (some pl91) .e (.n (some pl219) .e .e)) (.n none (.n (some pl187) .e .e) .e))))) (.n none (.n none (.n none (.n none (.n none (.n (some pl129) .e .e) .e) .e) (.n none (.n none (.n (some pl145) (.n (some pl273) .e .e) .e) .e) (.n none (.n none (.n (some pl305) .e .e) .e) (.n (some pl241) .e .e)))) (.n none (.n none (.n none (.n none (.n (some pl265) .e .e) .e) (.n (some pl201) .e .e)) (.n none (.n none (.n (some pl297) .e .e) .e) .e)) (.n (some pl57) (.n (some pl89) .e .e) (.n none (.n none (.n (some pl313) .e .e) .e) .e)))) (.n none (.n (some pl21) (.n none (.n (some pl69) (.n (some pl133) .e .e) (.n (some pl197) .e .e)) .e) (.n none (.n none (.n none (.n (some pl277) .e .e) .e) .e) (.n none (.n none (.n (some pl309) .e .e) .e) (.n (some pl245) .e .e)))) (.n none (.n none (.n none (.n none (.n (some pl269) .e .e) .e) (.n (some pl205) .e .e)) (.n none (.n none (.n (some pl301) .e .e) .e) .e)) (.n none (.n (some pl93) (.n (some pl157) .e .e) .e) (.n (some pl125) (.n none (.n (some pl317) .e .e) .e) .e)))))) (.n none (.n none (.n none (.n none .e (.n none (.n none .e (.n (some pl208) .e .e)) (.n none (.n (some pl176) .e .e) .e))) (.n none (.n (some pl40) (.n none (.n (some pl136) .e .e) (.n (some pl200) .e .e)) (.n none .e (.n (some pl232) .e .e))) (.n none (.n none (.n (some pl152) .e .e) (.n (some pl216) .e .e)) (.n (some pl120) (.n none (.n (some pl312) .e .e) .e) .e)))) (.n (some pl12) (.n none (.n none (.n none (.n (some pl132) .e .e) (.n (some pl196) .e .e)) .e) (.n none (.n (some pl84) (.n none (.n (some pl276) .e .e) .e) .e) (.n (some pl116) .e (.n (some pl244) .e .e)))) (.n none (.n (some pl44) (.n (some pl76) .e .e) .e) (.n none (.n none (.n none (.n (some pl284) .e .e) .e) .e) (.n (some pl124) (.n (some pl188) (.n (some pl316) .e .e) .e) (.n (some pl252) .e .e)))))) (.n none (.n none (.n (some pl18) (.n none .e (.n (some pl98) (.n none (.n (some pl290) .e .e) .e) (.n (some pl226) .e .e))) (.n none (.n (some pl82) (.n (some pl146) (.n (some pl274) .e .e) .e) (.n (some pl210) .e .e)) (.n (some pl114) .e .e))) (.n (some pl26) (.n none (.n (some pl74) (.n (some pl138) .e .e) (.n (some pl202) .e .e)) (.n none (.n (some pl170) (.n (some pl298) .e .e) .e) .e)) (.n (some pl58) .e .e))) (.n none (.n (some pl22) (.n none (.n (some pl70) .e (.n (some pl198) .e .e)) (.n (some pl102) .e .e)) (.n none (.n none (.n (some pl150) .e .e) .e) (.n none .e (.n (some pl246) .e .e)))) (.n none (.n none (.n none (.n none (.n (some pl270) .e .e) .e) .e) (.n none (.n (some pl174) .e .e) .e)) (.n (some pl62) (.n none (.n none (.n (some pl286) .e .e) .e) .e) (.n none (.n (some pl190) .e .e) .e)))))))
theorem okf12 : okB Tryz.prog (plansIn plTbl) 12 = true := by decide +kernel
theorem okf18 : okB Tryz.prog (plansIn plTbl) 18 = true := by decide +kernel
theorem okf19 : okB Tryz.prog (plansIn plTbl) 19 = true := by decide +kernel
theorem okf21 : okB Tryz.prog (plansIn plTbl) 21 = true := by decide +kernel
theorem okf22 : okB Tryz.prog (plansIn plTbl) 22 = true := by decide +kernel
theorem okf26 : okB Tryz.prog (plansIn plTbl) 26 = true := by decide +kernel
theorem okf40 : okB Tryz.prog (plansIn plTbl) 40 = true := by decide +kernel
theorem okf44 : okB Tryz.prog (plansIn plTbl) 44 = true := by decide +kernel
theorem okf57 : okB Tryz.prog (plansIn plTbl) 57 = true := by decide +kernel
theorem okf58 : okB Tryz.prog (plansIn plTbl) 58 = true := by decide +kernel
theorem okf59 : okB Tryz.prog (plansIn plTbl) 59 = true := by decide +kernel
theorem okf62 : okB Tryz.prog (plansIn plTbl) 62 = true := by decide +kernel
theorem okf63 : okB Tryz.prog (plansIn plTbl) 63 = true := by decide +kernel
theorem okf69 : okB Tryz.prog (plansIn plTbl) 69 = true := by decide +kernel
theorem okf70 : okB Tryz.prog (plansIn plTbl) 70 = true := by decide +kernel
theorem okf74 : okB Tryz.prog (plansIn plTbl) 74 = true := by decide +kernel
theorem okf76 : okB Tryz.prog (plansIn plTbl) 76 = true := by decide +kernel
theorem okf82 : okB Tryz.prog (plansIn plTbl) 82 = true := by decide +kernel
theorem okf84 : okB Tryz.prog (plansIn plTbl) 84 = true := by decide +kernel
theorem ok_q89_21_0 : partOk Tryz.prog 89 21 [] 7 [true, true, true, true, true, true, true, true, true, true, true, true, true, true, true, false, false, false, false, false, false, false] q89_21_0 = true := by decide +kernel
def F_q89_21_0 : PF := (7, [true, true, true, true, true, true, true, true, true, true, true, true, true, true, true, false, false, false, false, false, false, false], q89_21_0) :: []
theorem all_q89_21_0 : AllOk Tryz.prog 89 21 F_q89_21_0 := allOk_cons allOk_nil ok_q89_21_0
theorem ok_q89_21_1 : partOk Tryz.prog 89 21 F_q89_21_0 8 [true, true, true, true, true, true, true, true, true, true, true, true, true, true, false, false, false, false, false, false, false, false] q89_21_1 = true := by decide +kernel
def F_q89_21_1 : PF := (8, [true, true, true, true, true, true, true, true, true, true, true, true, true, true, false, false, false, false, false, false, false, false], q89_21_1) :: F_q89_21_0
theorem all_q89_21_1 : AllOk Tryz.prog 89 21 F_q89_21_1 := allOk_cons all_q89_21_0 ok_q89_21_1
theorem ok_q89_21_2 : partOk Tryz.prog 89 21 F_q89_21_1 8 [true, true, true, true, true, true, true, true, true, true, true, true, false, true, true, false, false, false, false, false, false, false] q89_21_2 = true := by decide +kernel
def F_q89_21_2 : PF := (8, [true, true, true, true, true, true, true, true, true, true, true, true, false, true, true, false, false, false, false, false, false, false], q89_21_2) :: F_q89_21_1
theorem all_q89_21_2 : AllOk Tryz.prog 89 21 F_q89_21_2 := allOk_cons all_q89_21_1 ok_q89_21_2
theorem ok_q89_21_3 : partOk Tryz.prog 89 21 F_q89_21_2 8 [true, true, true, true, true, true, true, true, false, true, true, true, true, true, true, false, false, false, false, false, false, false] q89_21_3 = true := by decide +kernel
def F_q89_21_3 : PF := (8, [true, true, true, true, true, true, true, true, false, true, true, true, true, true, true, false, false, false, false, false, false, false], q89_21_3) :: F_q89_21_2
theorem all_q89_21_3 : AllOk Tryz.prog 89 21 F_q89_21_3 := allOk_cons all_q89_21_2 ok_q89_21_3
theorem ok_q89_21_4 : partOk Tryz.prog 89 21 F_q89_21_3 9 [true, true, true, true, true, true, true, true, false, true, true, true, true, true, false, false, false, false, false, false, false, false] q89_21_4 = true := by decide +kernel
def F_q89_21_4 : PF := (9, [true, true, true, true, true, true, true, true, false, true, true, true, true, true, false, false, false, false, false, false, false, false], q89_21_4) :: F_q89_21_3
theorem all_q89_21_4 : AllOk Tryz.prog 89 21 F_q89_21_4 := allOk_cons all_q89_21_3 ok_q89_21_4
theorem ok_q89_21_5 : partOk Tryz.prog 89 21 F_q89_21_4 9 [true, true, true, true, true, true, true, true, false, true, true, true, false, true, true, false, false, false, false, false, false, false] q89_21_5 = true := by decide +kernel
def F_q89_21_5 : PF := (9, [true, true, true, true, true, true, true, true, false, true, true, true, false, true, true, false, false, false, false, false, false, false], q89_21_5) :: F_q89_21_4
theorem all_q89_21_5 : AllOk Tryz.prog 89 21 F_q89_21_5 := allOk_cons all_q89_21_4 ok_q89_21_5
theorem ok_q89_21_6 : partOk Tryz.prog 89 21 F_q89_21_5 10 [true, true, true, true, true, true, true, true, false, true, true, true, false, true, false, false, false, false, false, false, false, false] q89_21_6 = true := by decide +kernel
def F_q89_21_6 : PF := (10, [true, true, true, true, true, true, true, true, false, true, true, true, false, true, false, false, false, false, false, false, false, false], q89_21_6) :: F_q89_21_5
theorem all_q89_21_6 : AllOk Tryz.prog 89 21 F_q89_21_6 := allOk_cons all_q89_21_5 ok_q89_21_6
theorem ok_q89_21_7 : partOk Tryz.prog 89 21 F_q89_21_6 9 [true, true, true, true, true, true, true, false, false, true, true, true, true, true, true, false, false, false, false, false, false, false] q89_21_7 = true := by decide +kernel
def F_q89_21_7 : PF := (9, [true, true, true, true, true, true, true, false, false, true, true, true, true, true, true, false, false, false, false, false, false, false], q89_21_7) :: F_q89_21_6
theorem all_q89_21_7 : AllOk Tryz.prog 89 21 F_q89_21_7 := allOk_cons all_q89_21_6 ok_q89_21_7
theorem ok_q89_21_8 : partOk Tryz.prog 89 21 F_q89_21_7 10 [true, true, true, true, true, true, true, false, false, true, true, true, true, true, false, false, false, false, false, false, false, false] q89_21_8 = true := by decide +kernel
def F_q89_21_8 : PF := (10, [true, true, true, true, true, true, true, false, false, true, true, true, true, true, false, false, false, false, false, false, false, false], q89_21_8) :: F_q89_21_7
theorem all_q89_21_8 : AllOk Tryz.prog 89 21 F_q89_21_8 := allOk_cons all_q89_21_7 ok_q89_21_8
theorem ok_q89_21_9 : partOk Tryz.prog 89 21 F_q89_21_8 10 [true, true, true, true, true, true, true, false, false, true, true, true, false, true, true, false, false, false, false, false, false, false] q89_21_9 = true := by decide +kernel
def F_q89_21_9 : PF := (10, [true, true, true, true, true, true, true, false, false, true, true, true, false, true, true, false, false, false, false, false, false, false], q89_21_9) :: F_q89_21_8
theorem all_q89_21_9 : AllOk Tryz.prog 89 21 F_q89_21_9 := allOk_cons all_q89_21_8 ok_q89_21_9
theorem ok_q89_21_10 : partOk Tryz.prog 89 21 F_q89_21_9 9 [true, true, true, true, true, false, true, true, false, true, true, true, true, true, true, false, false, false, false, false, false, false] q89_21_10 = true := by decide +kernel
def F_q89_21_10 : PF := (9, [true, true, true, true, true, false, true, true, false, true, true, true, true, true, true, false, false, false, false, false, false, false], q89_21_10) :: F_q89_21_9
theorem all_q89_21_10 : AllOk Tryz.prog 89 21 F_q89_21_10 := allOk_cons all_q89_21_9 ok_q89_21_10
theorem ok_q89_21_11 : partOk Tryz.prog 89 21 F_q89_21_10 10 [true, true, true, true, true, false, true, true, false, true, true, true, true, true, false, false, false, false, false, false, false, false] q89_21_11 = true := by decide +kernel
def F_q89_21_11 : PF := (10, [true, true, true, true, true, false, true, true, false, true, true, true, true, true, false, false, false, false, false, false, false, false], q89_21_11) :: F_q89_21_10
theorem all_q89_21_11 : AllOk Tryz.prog 89 21 F_q89_21_11 := allOk_cons all_q89_21_10 ok_q89_21_11
theorem ok_q89_21_12 : partOk Tryz.prog 89 21 F_q89_21_11 10 [true, true, true, true, true, false, true, true, false, true, true, true, false, true, true, false, false, false, false, false, false, false] q89_21_12 = true := by decide +kernel
def F_q89_21_12 : PF := (10, [true, true, true, true, true, false, true, true, false, true, true, true, false, true, true, false, false, false, false, false, false, false], q89_21_12) :: F_q89_21_11
theorem all_q89_21_12 : AllOk Tryz.prog 89 21 F_q89_21_12 := allOk_cons all_q89_21_11 ok_q89_21_12
theorem ok_q89_21_13 : partOk Tryz.prog 89 21 F_q89_21_12 10 [true, true, true, true, true, false, true, false, false, true, true, true, true, true, true, false, false, false, false, false, false, false] q89_21_13 = true := by decide +kernel
def F_q89_21_13 : PF := (10, [true, true, true, true, true, false, true, false, false, true, true, true, true, true, true, false, false, false, false, false, false, false], q89_21_13) :: F_q89_21_12
theorem all_q89_21_13 : AllOk Tryz.prog 89 21 F_q89_21_13 := allOk_cons all_q89_21_12 ok_q89_21_13
def pw89_21 : Plan := (.pure 0 (.pure 1 (.pure 2 (.pure 3 (.pure 4 (.pure 6 (.pure 9 (.pure 10 (.pure 11 (.pure 13 (.alt (.eff 5 (.alt (.eff 7 q89_21_6) (.alt (.eff 12 q89_21_8) (.eff 14 q89_21_9)))) (.alt (.eff 7 (.alt (.eff 5 q89_21_6) (.alt (.eff 12 q89_21_11) (.eff 14 q89_21_12)))) (.alt (.eff 12 (.alt (.eff 5 q89_21_8) (.alt (.eff 7 q89_21_11) (.eff 14 q89_21_13)))) (.eff 14 (.alt (.eff 5 q89_21_9) (.alt (.eff 7 q89_21_12) (.eff 12 q89_21_13)))))))))))))))))
theorem okw89_21 : wholeOk Tryz.prog 89 21 F_q89_21_13 pw89_21 = true := by decide +kernel
theorem ok_q89_22_0 : partOk Tryz.prog 89 22 [] 2 [true, true, true, true, true, true, true, true, true, true, true, true, true, true, true, true, true, false, false] q89_22_0 = true := by decide +kernel
def F_q89_22_0 : PF := (2, [true, true, true, true, true, true, true, true, true, true, true, true, true, true, true, true, true, false, false], q89_22_0) :: []
theorem all_q89_22_0 : AllOk Tryz.prog 89 22 F_q89_22_0 := allOk_cons allOk_nil ok_q89_22_0
theorem ok_q89_22_1 : partOk Tryz.prog 89 22 F_q89_22_0 3 [true, true, true, true, true, true, true, true, true, true, true, true, true, true, true, true, false, false, false] q89_22_1 = true := by decide +kernel
def F_q89_22_1 : PF := (3, [true, true, true, true, true, true, true, true, true, true, true, true, true, true, true, true, false, false, false], q89_22_1) :: F_q89_22_0
theorem all_q89_22_1 : AllOk Tryz.prog 89 22 F_q89_22_1 := allOk_cons all_q89_22_0 ok_q89_22_1
theorem ok_q89_22_2 : partOk Tryz.prog 89 22 F_q89_22_1 3 [true, true, true, true, true, true, true, true, true, true, true, true, true, true, false, true, true, false, false] q89_22_2 = true := by decide +kernel
def F_q89_22_2 : PF := (3, [true, true, true, true, true, true, true, true, true, true, true, true, true, true, false, true, true, false, false], q89_22_2) :: F_q89_22_1
theorem all_q89_22_2 : AllOk Tryz.prog 89 22 F_q89_22_2 := allOk_cons all_q89_22_1 ok_q89_22_2
theorem ok_q89_22_3 : partOk Tryz.prog 89 22 F_q89_22_2 4 [true, true, true, true, true, true, true, true, true, true, true, true, true, true, false, true, false, false, false] q89_22_3 = true := by decide +kernel
def F_q89_22_3 : PF := (4, [true, true, true, true, true, true, true, true, true, true, true, true, true, true, false, true, false, false, false], q89_22_3) :: F_q89_22_2
theorem all_q89_22_3 : AllOk Tryz.prog 89 22 F_q89_22_3 := allOk_cons all_q89_22_2 ok_q89_22_3
theorem ok_q89_22_4 : partOk Tryz.prog 89 22 F_q89_22_3 5 [true, true, true, true, true, true, true, true, true, true, true, true, true, false, true, false, false, false, false] q89_22_4 = true := by decide +kernel
def F_q89_22_4 : PF := (5, [true, true, true, true, true, true, true, true, true, true, true, true, true, false, true, false, false, false, false], q89_22_4) :: F_q89_22_3
theorem all_q89_22_4 : AllOk Tryz.prog 89 22 F_q89_22_4 := allOk_cons all_q89_22_3 ok_q89_22_4
theorem ok_q89_22_5 : partOk Tryz.prog 89 22 F_q89_22_4 4 [true, true, true, true, true, true, true, true, true, true, true, false, true, true, true, true, false, false, false] q89_22_5 = true := by decide +kernel
def F_q89_22_5 : PF := (4, [true, true, true, true, true, true, true, true, true, true, true, false, true, true, true, true, false, false, false], q89_22_5) :: F_q89_22_4
theorem all_q89_22_5 : AllOk Tryz.prog 89 22 F_q89_22_5 := allOk_cons all_q89_22_4 ok_q89_22_5
def pw89_22 : Plan := (.pure 0 (.pure 1 (.pure 2 (.pure 4 (.pure 6 (.pure 7 (.pure 8 (.pure 10 (.read 3 (.read 5 (.read 9 (.read 12 (.alt (.eff 11 (.alt (.eff 13 (.pure 15 q89_22_3)) (.eff 14 q89_22_4))) (.alt (.eff 13 (.pure 15 (.alt (.eff 11 q89_22_3) (.alt (.eff 14 q89_22_5) (.eff 16 (.read 11 q89_22_2)))))) (.eff 14 (.alt (.eff 11 q89_22_4) (.eff 13 (.pure 15 q89_22_5))))))))))))))))))
theorem okw89_22 : wholeOk Tryz.prog 89 22 F_q89_22_5 pw89_22 = true := by decide +kernel
theorem okf89 : okB Tryz.prog (plansIn plTbl) 89 = true := by
  refine okB_of (skip := [21, 22]) (by decide +kernel) ?_
  intro id hid ops ho
  simp only [List.mem_cons, List.not_mem_nil, or_false] at hid
  rcases hid with rfl | rfl
  · exact ⟨pw89_21, rfl, whole_ok all_q89_21_13 okw89_21 ops ho⟩
  · exact ⟨pw89_22, rfl, whole_ok all_q89_22_5 okw89_22 ops ho⟩
theorem okf91 : okB Tryz.prog (plansIn plTbl) 91 = true := by decide +kernel
theorem okf93 : okB Tryz.prog (plansIn plTbl) 93 = true := by decide +kernel
theorem okf98 : okB Tryz.prog (plansIn plTbl) 98 = true := by decide +kernel
theorem okf102 : okB Tryz.prog (plansIn plTbl) 102 = true := by decide +kernel
theorem okf114 : okB Tryz.prog (plansIn plTbl) 114 = true := by decide +kernel
theorem okf116 : okB Tryz.prog (plansIn plTbl) 116 = true := by decide +kernel
theorem okf119 : okB Tryz.prog (plansIn plTbl) 119 = true := by decide +kernel
theorem okf120 : okB Tryz.prog (plansIn plTbl) 120 = true := by decide +kernel
theorem okf124 : okB Tryz.prog (plansIn plTbl) 124 = true := by decide +kernel
theorem okf125 : okB Tryz.prog (plansIn plTbl) 125 = true := by decide +kernel
theorem okf129 : okB Tryz.prog (plansIn plTbl) 129 = true := by decide +kernel
theorem okf131 : okB Tryz.prog (plansIn plTbl) 131 = true := by decide +kernel
theorem okf132 : okB Tryz.prog (plansIn plTbl) 132 = true := by decide +kernel
theorem okf133 : okB Tryz.prog (plansIn plTbl) 133 = true := by decide +kernel
theorem okf135 : okB Tryz.prog (plansIn plTbl) 135 = true := by decide +kernel
theorem okf136 : okB Tryz.prog (plansIn plTbl) 136 = true := by decide +kernel
theorem okf138 : okB Tryz.prog (plansIn plTbl) 138 = true := by decide +kernel
theorem okf139 : okB Tryz.prog (plansIn plTbl) 139 = true := by decide +kernel
theorem okf145 : okB Tryz.prog (plansIn plTbl) 145 = true := by decide +kernel
theorem okf146 : okB Tryz.prog (plansIn plTbl) 146 = true := by decide +kernel
theorem okf150 : okB Tryz.prog (plansIn plTbl) 150 = true := by decide +kernel
theorem okf151 : okB Tryz.prog (plansIn plTbl) 151 = true := by decide +kernel
theorem okf152 : okB Tryz.prog (plansIn plTbl) 152 = true := by decide +kernel
theorem okf157 : okB Tryz.prog (plansIn plTbl) 157 = true := by decide +kernel
theorem okf167 : okB Tryz.prog (plansIn plTbl) 167 = true := by decide +kernel
theorem okf170 : okB Tryz.prog (plansIn plTbl) 170 = true := by decide +kernel
theorem okf174 : okB Tryz.prog (plansIn plTbl) 174 = true := by decide +kernel
theorem okf176 : okB Tryz.prog (plansIn plTbl) 176 = true := by decide +kernel
theorem okf179 : okB Tryz.prog (plansIn plTbl) 179 = true := by decide +kernel
theorem okf183 : okB Tryz.prog (plansIn plTbl) 183 = true := by decide +kernel
theorem okf187 : okB Tryz.prog (plansIn plTbl) 187 = true := by decide +kernel
theorem okf188 : okB Tryz.prog (plansIn plTbl) 188 = true := by decide +kernel
theorem okf190 : okB Tryz.prog (plansIn plTbl) 190 = true := by decide +kernel
theorem okf196 : okB Tryz.prog (plansIn plTbl) 196 = true := by decide +kernel
theorem okf197 : okB Tryz.prog (plansIn plTbl) 197 = true := by decide +kernel
theorem okf198 : okB Tryz.prog (plansIn plTbl) 198 = true := by decide +kernel
theorem okf200 : okB Tryz.prog (plansIn plTbl) 200 = true := by decide +kernel
theorem okf201 : okB Tryz.prog (plansIn plTbl) 201 = true := by decide +kernel
theorem okf202 : okB Tryz.prog (plansIn plTbl) 202 = true := by decide +kernel
theorem okf203 : okB Tryz.prog (plansIn plTbl) 203 = true := by decide +kernel
theorem okf205 : okB Tryz.prog (plansIn plTbl) 205 = true := by decide +kernel
theorem okf207 : okB Tryz.prog (plansIn plTbl) 207 = true := by decide +kernel
theorem okf208 : okB Tryz.prog (plansIn plTbl) 208 = true := by decide +kernel
theorem okf210 : okB Tryz.prog (plansIn plTbl) 210 = true := by decide +kernel
theorem okf216 : okB Tryz.prog (plansIn plTbl) 216 = true := by decide +kernel
theorem okf219 : okB Tryz.prog (plansIn plTbl) 219 = true := by decide +kernel
theorem okf226 : okB Tryz.prog (plansIn plTbl) 226 = true := by decide +kernel
theorem okf231 : okB Tryz.prog (plansIn plTbl) 231 = true := by decide +kernel
theorem okf232 : okB Tryz.prog (plansIn plTbl) 232 = true := by decide +kernel
theorem okf239 : okB Tryz.prog (plansIn plTbl) 239 = true := by decide +kernel
theorem okf241 : okB Tryz.prog (plansIn plTbl) 241 = true := by decide +kernel
theorem okf244 : okB Tryz.prog (plansIn plTbl) 244 = true := by decide +kernel
theorem okf245 : okB Tryz.prog (plansIn plTbl) 245 = true := by decide +kernel
theorem ok_q246_4_0 : partOk Tryz.prog 246 4 [] 4 [true, true, true, true, true, true, true, true, true, true, true, true, true, true, true, true, true, true, false, false, false, false] q246_4_0 = true := by decide +kernel
def F_q246_4_0 : PF := (4, [true, true, true, true, true, true, true, true, true, true, true, true, true, true, true, true, true, true, false, false, false, false], q246_4_0) :: []
theorem all_q246_4_0 : AllOk Tryz.prog 246 4 F_q246_4_0 := allOk_cons allOk_nil ok_q246_4_0
theorem ok_q246_4_1 : partOk Tryz.prog 246 4 F_q246_4_0 5 [true, true, true, true, true, true, true, true, true, true, false, true, true, true, true, true, true, true, false, false, false, false] q246_4_1 = true := by decide +kernel
def F_q246_4_1 : PF := (5, [true, true, true, true, true, true, true, true, true, true, false, true, true, true, true, true, true, true, false, false, false, false], q246_4_1) :: F_q246_4_0
theorem all_q246_4_1 : AllOk Tryz.prog 246 4 F_q246_4_1 := allOk_cons all_q246_4_0 ok_q246_4_1
theorem ok_q246_4_2 : partOk Tryz.prog 246 4 F_q246_4_1 7 [true, true, true, true, true, true, true, true, true, true, false, true, true, true, false, true, true, false, false, false, false, false] q246_4_2 = true := by decide +kernel
def F_q246_4_2 : PF := (7, [true, true, true, true, true, true, true, true, true, true, false, true, true, true, false, true, true, false, false, false, false, false], q246_4_2) :: F_q246_4_1
theorem all_q246_4_2 : AllOk Tryz.prog 246 4 F_q246_4_2 := allOk_cons all_q246_4_1 ok_q246_4_2
theorem ok_q246_4_3 : partOk Tryz.prog 246 4 F_q246_4_2 6 [true, true, true, true, true, true, true, true, true, false, false, true, true, true, true, true, true, true, false, false, false, false] q246_4_3 = true := by decide +kernel
def F_q246_4_3 : PF := (6, [true, true, true, true, true, true, true, true, true, false, false, true, true, true, true, true, true, true, false, false, false, false], q246_4_3) :: F_q246_4_2
theorem all_q246_4_3 : AllOk Tryz.prog 246 4 F_q246_4_3 := allOk_cons all_q246_4_2 ok_q246_4_3
theorem ok_q246_4_4 : partOk Tryz.prog 246 4 F_q246_4_3 7 [true, true, true, true, false, true, true, false, true, true, false, true, true, true, true, true, true, true, false, false, false, false] q246_4_4 = true := by decide +kernel
def F_q246_4_4 : PF := (7, [true, true, true, true, false, true, true, false, true, true, false, true, true, true, true, true, true, true, false, false, false, false], q246_4_4) :: F_q246_4_3
theorem all_q246_4_4 : AllOk Tryz.prog 246 4 F_q246_4_4 := allOk_cons all_q246_4_3 ok_q246_4_4
def pw246_4 : Plan := (.pure 0 (.pure 1 (.pure 2 (.pure 3 (.pure 5 (.pure 6 (.pure 8 (.pure 11 (.pure 12 (.pure 13 (.pure 15 (.pure 16 (.alt (.eff 4 (.pure 7 (.alt (.eff 9 q246_4_2) (.eff 14 (.pure 17 q246_4_3))))) (.alt (.eff 9 (.alt (.eff 4 (.pure 7 q246_4_2)) (.eff 14 (.pure 17 q246_4_4)))) (.eff 14 (.pure 17 (.alt (.eff 4 (.pure 7 q246_4_3)) (.eff 9 q246_4_4))))))))))))))))))
theorem okw246_4 : wholeOk Tryz.prog 246 4 F_q246_4_4 pw246_4 = true := by decide +kernel
theorem okf246 : okB Tryz.prog (plansIn plTbl) 246 = true := by
  refine okB_of (skip := [4]) (by decide +kernel) ?_
  intro id hid ops ho
  simp only [List.mem_cons, List.not_mem_nil, or_false] at hid
  rcases hid with rfl
  · exact ⟨pw246_4, rfl, whole_ok all_q246_4_4 okw246_4 ops ho⟩
theorem okf252 : okB Tryz.prog (plansIn plTbl) 252 = true := by decide +kernel
theorem okf259 : okB Tryz.prog (plansIn plTbl) 259 = true := by decide +kernel
theorem okf265 : okB Tryz.prog (plansIn plTbl) 265 = true := by decide +kernel
theorem okf269 : okB Tryz.prog (plansIn plTbl) 269 = true := by decide +kernel
theorem okf270 : okB Tryz.prog (plansIn plTbl) 270 = true := by decide +kernel
theorem okf271 : okB Tryz.prog (plansIn plTbl) 271 = true := by decide +kernel
theorem okf273 : okB Tryz.prog (plansIn plTbl) 273 = true := by decide +kernel
theorem okf274 : okB Tryz.prog (plansIn plTbl) 274 = true := by decide +kernel
theorem okf276 : okB Tryz.prog (plansIn plTbl) 276 = true := by decide +kernel
theorem okf277 : okB Tryz.prog (plansIn plTbl) 277 = true := by decide +kernel
theorem okf279 : okB Tryz.prog (plansIn plTbl) 279 = true := by decide +kernel
theorem okf284 : okB Tryz.prog (plansIn plTbl) 284 = true := by decide +kernel
theorem okf286 : okB Tryz.prog (plansIn plTbl) 286 = true := by decide +kernel
theorem okf290 : okB Tryz.prog (plansIn plTbl) 290 = true := by decide +kernel
theorem okf297 : okB Tryz.prog (plansIn plTbl) 297 = true := by decide +kernel
theorem okf298 : okB Tryz.prog (plansIn plTbl) 298 = true := by decide +kernel
theorem okf301 : okB Tryz.prog (plansIn plTbl) 301 = true := by decide +kernel
theorem okf305 : okB Tryz.prog (plansIn plTbl) 305 = true := by decide +kernel
theorem okf309 : okB Tryz.prog (plansIn plTbl) 309 = true := by decide +kernel
theorem okf312 : okB Tryz.prog (plansIn plTbl) 312 = true := by decide +kernel
theorem okf313 : okB Tryz.prog (plansIn plTbl) 313 = true := by decide +kernel
theorem okf316 : okB Tryz.prog (plansIn plTbl) 316 = true := by decide +kernel
theorem okf317 : okB Tryz.prog (plansIn plTbl) 317 = true := by decide +kernel
def plKeys : List Nat := [12, 18, 19, 21, 22, 26, 40, 44, 57, 58, 59, 62, 63, 69, 70, 74, 76, 82, 84, 89, 91, 93, 98, 102, 114, 116, 119, 120, 124, 125, 129, 131, 132, 133, 135, 136, 138, 139, 145, 146, 150, 151, 152, 157, 167, 170, 174, 176, 179, 183, 187, 188, 190, 196, 197, 198, 200, 201, 202, 203, 205, 207, 208, 210, 216, 219, 226, 231, 232, 239, 241, 244, 245, 246, 252, 259, 265, 269, 270, 271, 273, 274, 276, 277, 279, 284, 286, 290, 297, 298, 301, 305, 309, 312, 313, 316, 317]
theorem ok_keys : ∀ f, memN f plKeys = true → okB Tryz.prog (plansIn plTbl) f = true := (okB_cons okf12 (okB_cons okf18 (okB_cons okf19 (okB_cons okf21 (okB_cons okf22 (okB_cons okf26 (okB_cons okf40 (okB_cons okf44 (okB_cons okf57 (okB_cons okf58 (okB_cons okf59 (okB_cons okf62 (okB_cons okf63 (okB_cons okf69 (okB_cons okf70 (okB_cons okf74 (okB_cons okf76 (okB_cons okf82 (okB_cons okf84 (okB_cons okf89 (okB_cons okf91 (okB_cons okf93 (okB_cons okf98 (okB_cons okf102 (okB_cons okf114 (okB_cons okf116 (okB_cons okf119 (okB_cons okf120 (okB_cons okf124 (okB_cons okf125 (okB_cons okf129 (okB_cons okf131 (okB_cons okf132 (okB_cons okf133 (okB_cons okf135 (okB_cons okf136 (okB_cons okf138 (okB_cons okf139 (okB_cons okf145 (okB_cons okf146 (okB_cons okf150 (okB_cons okf151 (okB_cons okf152 (okB_cons okf157 (okB_cons okf167 (okB_cons okf170 (okB_cons okf174 (okB_cons okf176 (okB_cons okf179 (okB_cons okf183 (okB_cons okf187 (okB_cons okf188 (okB_cons okf190 (okB_cons okf196 (okB_cons okf197 (okB_cons okf198 (okB_cons okf200 (okB_cons okf201 (okB_cons okf202 (okB_cons okf203 (okB_cons okf205 (okB_cons okf207 (okB_cons okf208 (okB_cons okf210 (okB_cons okf216 (okB_cons okf219 (okB_cons okf226 (okB_cons okf231 (okB_cons okf232 (okB_cons okf239 (okB_cons okf241 (okB_cons okf244 (okB_cons okf245 (okB_cons okf246 (okB_cons okf252 (okB_cons okf259 (okB_cons okf265 (okB_cons okf269 (okB_cons okf270 (okB_cons okf271 (okB_cons okf273 (okB_cons okf274 (okB_cons okf276 (okB_cons okf277 (okB_cons okf279 (okB_cons okf284 (okB_cons okf286 (okB_cons okf290 (okB_cons okf297 (okB_cons okf298 (okB_cons okf301 (okB_cons okf305 (okB_cons okf309 (okB_cons okf312 (okB_cons okf313 (okB_cons okf316 (okB_cons okf317 okB_nil)))))))))))))))))))))))))))))))))))))))))))))))))))))))))))))))))))))))))))))))))))))))))))))))))
theorem keys_all : keysIn plTbl plKeys 340 = true := by decide +kernel
theorem plans_ok : OkAll Tryz.prog (plansIn plTbl) := okB_all ok_keys keys_all (by decide +kernel)
theorem base_ok (l : List Value) (h : ∀ v ∈ l, v.oneCell' = true) (w : World) : @RunBase (sigOf (plansIn plTbl) l h w) Tryz.prog (plansIn plTbl) := RunBase.of mixed (by decide +kernel) plans_ok l h w
end Go.Proofs.YtgmokaflgdmekaaGreat.V
