/-
  The plans of the regions that draw their order, printed by a program; they go with every order. No condition.
-/
import Derived.Test.YtmjjlhnddokppaaGreatFb
import Derived.Test.YtmjjlhnddokppaaGreatFacts
import Derived.Test.YtmjjlhnddokppaaGreatFq
namespace Go.Proofs.YtmjjlhnddokppaaGreat.V
def pl6 : List (Nat × Plan) := [(3, (.read 0 (.eff 1 (.eff 2 (.pure 3 (.eff 4 (.pure 5 .done)))))))]
def pl9 : List (Nat × Plan) := [(25, (.pure 0 (.pure 2 (.pure 5 (.pure 6 (.pure 7 (.read 1 (.pure 3 (.read 4 (.read 8 (.pure 9 .done)))))))))))]
def pl10 : List (Nat × Plan) := [(1, (.pure 0 (.pure 1 (.pure 2 (.pure 3 (.pure 6 (.pure 7 (.pure 8 (.read 4 (.pure 5 (.eff 9 (.eff 10 (.pure 11 (.pure 12 .done)))))))))))))),
  (2, (.pure 0 (.pure 1 (.pure 2 (.pure 3 (.pure 4 (.pure 7 (.pure 8 (.pure 9 (.pure 10 (.pure 13 (.pure 14 (.read 5 (.read 11 (.pure 12 (.eff 6 (.eff 15 (.pure 16 (.pure 17 (.pure 18 (.pure 20 (.pure 21 (.pure 22 (.read 23 (.eff 19 (.pure 24 (.pure 25 (.pure 26 (.pure 27 (.pure 29 (.pure 30 (.pure 31 (.read 32 (.eff 28 (.pure 33 (.pure 34 .done)))))))))))))))))))))))))))))))))))),
  (11, (.pure 1 (.pure 2 (.pure 3 (.pure 4 (.pure 5 (.read 0 (.read 6 (.eff 7 (.eff 8 (.pure 9 (.pure 10 (.pure 11 (.pure 12 (.pure 13 .done))))))))))))))),
  (16, (.pure 1 (.read 0 (.eff 2 (.eff 3 (.pure 4 .done))))))]
def pl11 : List (Nat × Plan) := [(1, (.pure 1 (.pure 3 (.pure 6 (.pure 10 (.pure 13 (.pure 15 (.read 0 (.read 2 (.read 4 (.pure 5 (.read 7 (.pure 8 (.pure 9 (.read 11 (.pure 12 (.read 14 (.read 16 (.pure 17 (.eff 18 (.pure 19 (.eff 20 (.pure 21 .done)))))))))))))))))))))))]
def pl13 : List (Nat × Plan) := [(6, (.pure 0 (.pure 2 (.pure 3 (.pure 5 (.read 1 (.read 4 (.read 6 (.alt (.eff 7 (.pure 8 (.eff 9 (.eff 10 .done)))) (.eff 9 (.eff 7 (.pure 8 (.eff 10 .done))))))))))))),
  (9, (.pure 0 (.pure 1 (.pure 2 (.pure 4 (.pure 5 (.pure 6 (.read 3 (.read 7 (.eff 8 .done)))))))))),
  (10, (.pure 0 (.pure 1 (.pure 2 (.pure 4 (.pure 5 (.pure 6 (.pure 10 (.read 3 (.read 7 (.eff 8 (.pure 9 .done))))))))))))]
def pl15 : List (Nat × Plan) := [(6, (.pure 0 (.pure 2 (.pure 5 (.pure 7 (.read 1 (.pure 3 (.read 4 (.read 6 (.pure 8 (.read 9 (.eff 10 (.pure 11 .done)))))))))))))]
def q21_6_0 : Plan := (.eff 13 .done)
def q21_6_1 : Plan := (.eff 12 q21_6_0)
def q21_6_2 : Plan := (.eff 11 q21_6_1)
def q21_6_3 : Plan := (.eff 10 q21_6_1)
def q21_6_4 : Plan := (.read 9 q21_6_0)
def q21_6_5 : Plan := (.alt (.eff 9 q21_6_1) (.eff 12 q21_6_4))
def q21_6_6 : Plan := (.alt (.eff 9 q21_6_2) (.eff 11 q21_6_5))
def q21_6_7 : Plan := (.alt (.eff 9 q21_6_3) (.eff 10 q21_6_5))
def q21_6_8 : Plan := (.alt (.eff 6 (.pure 8 q21_6_5)) (.eff 12 (.read 6 (.pure 8 q21_6_4))))
def pl21 : List (Nat × Plan) := [(6, (.pure 0 (.pure 2 (.pure 5 (.pure 7 (.read 1 (.pure 3 (.read 4 (.alt (.eff 6 (.pure 8 (.alt (.eff 9 (.alt (.eff 10 q21_6_2) (.eff 11 q21_6_3))) (.alt (.eff 10 q21_6_6) (.eff 11 q21_6_7))))) (.alt (.eff 10 (.alt (.eff 6 (.pure 8 q21_6_6)) (.eff 11 q21_6_8))) (.eff 11 (.alt (.eff 6 (.pure 8 q21_6_7)) (.eff 10 q21_6_8)))))))))))))]
def q22_3_0 : Plan := (.eff 45 .done)
def q22_3_1 : Plan := (.eff 42 (.pure 43 q22_3_0))
def q22_3_2 : Plan := (.eff 37 q22_3_1)
def q22_3_3 : Plan := (.eff 32 q22_3_2)
def q22_3_4 : Plan := (.eff 27 q22_3_3)
def q22_3_5 : Plan := (.eff 26 q22_3_4)
def q22_3_6 : Plan := (.eff 21 q22_3_5)
def pl22 : List (Nat × Plan) := [(3, (.pure 0 (.pure 1 (.pure 2 (.pure 4 (.pure 5 (.pure 6 (.pure 8 (.pure 9 (.pure 10 (.pure 12 (.pure 13 (.pure 14 (.pure 17 (.pure 18 (.pure 19 (.pure 22 (.pure 23 (.pure 24 (.pure 28 (.pure 29 (.pure 30 (.pure 33 (.pure 34 (.pure 35 (.pure 38 (.pure 39 (.pure 40 (.pure 41 (.read 3 (.read 7 (.read 11 (.read 15 (.read 20 (.read 25 (.read 31 (.read 36 (.alt (.eff 16 (.alt (.eff 21 (.alt (.eff 26 (.alt (.eff 27 (.alt (.eff 32 (.alt (.eff 37 (.alt (.eff 42 (.pure 43 (.eff 44 q22_3_0))) (.eff 44 q22_3_1))) (.eff 44 q22_3_2))) (.eff 44 q22_3_3))) (.eff 44 q22_3_4))) (.eff 44 q22_3_5))) (.eff 44 q22_3_6))) (.eff 44 (.eff 16 q22_3_6))))))))))))))))))))))))))))))))))))))))]
def pl26 : List (Nat × Plan) := [(19, (.pure 0 (.pure 2 (.pure 3 (.pure 4 (.read 1 (.read 5 (.pure 6 (.eff 7 (.pure 8 .done)))))))))),
  (25, (.pure 0 (.pure 1 (.pure 2 (.pure 4 (.pure 5 (.pure 6 (.pure 7 (.pure 9 (.pure 10 (.read 3 (.read 8 (.pure 11 (.eff 12 (.eff 13 .done))))))))))))))),
  (26, (.pure 0 (.pure 2 (.pure 3 (.pure 4 (.read 1 (.read 5 (.pure 6 (.eff 7 (.pure 8 .done))))))))))]
def pl27 : List (Nat × Plan) := [(11, (.pure 0 (.pure 1 (.pure 2 (.pure 4 (.read 3 (.read 5 (.alt (.eff 6 (.pure 7 (.pure 8 (.pure 9 (.eff 10 (.eff 11 (.pure 12 .done))))))) (.eff 10 (.eff 6 (.pure 7 (.pure 8 (.pure 9 (.eff 11 (.pure 12 .done))))))))))))))),
  (19, (.pure 0 (.pure 1 (.pure 2 (.pure 3 (.read 4 (.read 5 (.eff 6 (.eff 7 (.pure 8 (.pure 9 (.eff 10 .done))))))))))))]
def pl28 : List (Nat × Plan) := [(6, (.pure 4 (.pure 6 (.read 0 (.pure 1 (.pure 2 (.read 3 (.read 5 (.pure 7 (.eff 8 (.eff 9 .done))))))))))),
  (9, (.pure 0 (.pure 1 (.pure 2 (.read 3 (.read 4 (.pure 5 (.pure 6 (.read 7 (.eff 8 .done)))))))))),
  (14, (.pure 10 (.read 0 (.pure 1 (.pure 2 (.read 3 (.read 5 (.pure 6 (.pure 7 (.read 8 (.eff 4 (.eff 9 (.pure 11 (.pure 12 (.pure 13 .done)))))))))))))))]
def pl29 : List (Nat × Plan) := [(6, (.pure 0 (.pure 1 (.pure 2 (.pure 4 (.pure 5 (.pure 6 (.read 3 (.read 7 (.eff 8 .done)))))))))),
  (7, (.pure 0 (.pure 1 (.pure 2 (.pure 5 (.pure 6 (.pure 7 (.read 3 (.read 8 (.eff 4 (.eff 9 (.pure 10 (.pure 11 .done)))))))))))))]
def pl31 : List (Nat × Plan) := [(8, (.pure 0 (.pure 1 (.pure 2 (.pure 5 (.pure 6 (.pure 7 (.read 3 (.alt (.eff 4 (.pure 10 (.eff 8 (.eff 9 (.eff 11 (.pure 12 (.eff 13 .done))))))) (.eff 8 (.eff 4 (.pure 10 (.eff 9 (.eff 11 (.pure 12 (.eff 13 .done))))))))))))))))]
def pl49 : List (Nat × Plan) := [(5, (.pure 1 (.pure 3 (.read 0 (.read 2 (.pure 4 (.pure 5 (.read 6 (.eff 7 (.pure 8 .done))))))))))]
def pl53 : List (Nat × Plan) := [(8, (.pure 0 (.pure 1 (.pure 4 (.pure 6 (.read 2 (.read 5 (.read 7 (.eff 3 (.pure 8 (.eff 9 .done)))))))))))]
def pl55 : List (Nat × Plan) := [(1, (.pure 0 (.pure 1 (.pure 2 (.pure 4 (.pure 5 (.pure 6 (.pure 8 (.pure 9 (.pure 10 (.pure 12 (.pure 13 (.pure 14 (.pure 15 (.pure 17 (.pure 18 (.pure 19 (.pure 20 (.pure 22 (.pure 23 (.pure 24 (.pure 25 (.pure 28 (.pure 29 (.pure 30 (.pure 31 (.pure 34 (.pure 35 (.pure 36 (.read 3 (.read 7 (.read 11 (.read 16 (.read 21 (.read 26 (.read 32 (.read 37 (.alt (.eff 27 (.alt (.eff 33 (.alt (.eff 38 (.pure 39 (.eff 40 (.eff 41 .done)))) (.eff 40 (.eff 38 (.pure 39 (.eff 41 .done)))))) (.eff 40 (.eff 33 (.eff 38 (.pure 39 (.eff 41 .done))))))) (.eff 40 (.eff 27 (.eff 33 (.eff 38 (.pure 39 (.eff 41 .done)))))))))))))))))))))))))))))))))))))))))))),
  (5, (.pure 0 (.pure 2 (.pure 3 (.pure 4 (.pure 5 (.pure 7 (.read 1 (.read 6 (.pure 8 (.read 9 (.eff 10 (.eff 11 (.eff 12 (.pure 13 (.eff 14 .done)))))))))))))))),
  (10, (.pure 0 (.pure 1 (.pure 2 (.pure 4 (.pure 5 (.pure 6 (.pure 7 (.pure 9 (.pure 10 (.pure 11 (.read 3 (.read 8 (.read 12 (.alt (.eff 13 (.alt (.eff 14 (.eff 15 (.eff 16 .done))) (.eff 15 (.eff 14 (.eff 16 .done))))) (.eff 15 (.eff 13 (.eff 14 (.eff 16 .done))))))))))))))))))),
  (12, (.pure 0 (.pure 2 (.pure 3 (.pure 4 (.pure 6 (.pure 8 (.read 1 (.read 5 (.read 7 (.read 9 (.pure 10 (.eff 11 (.eff 12 (.pure 13 (.eff 14 .done))))))))))))))))]
def pl56 : List (Nat × Plan) := [(4, (.pure 0 (.pure 2 (.pure 6 (.pure 8 (.pure 13 (.read 1 (.pure 3 (.pure 4 (.read 5 (.read 7 (.pure 9 (.pure 10 (.read 11 (.pure 12 (.eff 14 .done))))))))))))))))]
def pl59 : List (Nat × Plan) := [(5, (.pure 0 (.pure 1 (.pure 2 (.pure 3 (.pure 5 (.read 4 (.read 7 (.eff 6 (.eff 8 (.pure 9 .done))))))))))),
  (9, (.pure 0 (.pure 1 (.pure 2 (.pure 5 (.pure 7 (.read 3 (.read 6 (.read 8 (.eff 4 (.eff 9 (.pure 10 (.pure 11 (.pure 12 (.pure 13 (.pure 14 .done))))))))))))))))]
def pl63 : List (Nat × Plan) := [(1, (.pure 0 (.pure 1 (.pure 2 (.pure 4 (.read 3 (.read 5 (.eff 6 (.pure 7 (.pure 8 (.pure 9 (.pure 10 (.pure 11 .done)))))))))))))]
def pl66 : List (Nat × Plan) := [(2, (.pure 0 (.pure 1 (.pure 2 (.pure 3 (.pure 4 (.pure 5 (.pure 7 (.pure 8 (.read 6 (.read 9 (.eff 10 (.pure 11 (.pure 12 .done)))))))))))))),
  (4, (.pure 0 (.pure 1 (.pure 2 (.pure 4 (.read 3 (.read 5 (.eff 6 (.pure 7 (.pure 8 (.pure 9 (.pure 10 (.pure 11 .done))))))))))))),
  (6, (.pure 1 (.pure 2 (.pure 3 (.pure 5 (.pure 6 (.read 0 (.read 4 (.read 7 (.eff 8 (.pure 9 (.pure 10 (.pure 11 (.pure 12 (.pure 13 .done)))))))))))))))]
def pl67 : List (Nat × Plan) := [(6, (.pure 0 (.pure 1 (.pure 2 (.pure 4 (.pure 5 (.pure 6 (.read 3 (.read 7 (.pure 8 .done))))))))))]
def pl68 : List (Nat × Plan) := [(3, (.pure 0 (.pure 1 (.pure 2 (.pure 4 (.pure 5 (.pure 6 (.pure 8 (.read 3 (.read 7 (.eff 9 (.pure 10 (.pure 11 (.pure 12 (.pure 13 (.pure 14 (.pure 15 .done)))))))))))))))))]
def pl71 : List (Nat × Plan) := [(6, (.pure 0 (.pure 1 (.pure 2 (.pure 4 (.pure 5 (.pure 6 (.read 3 (.read 7 (.eff 8 (.pure 9 .done)))))))))))]
def pl72 : List (Nat × Plan) := [(6, (.pure 0 (.pure 1 (.pure 2 (.pure 4 (.pure 5 (.pure 6 (.read 3 (.read 7 (.pure 8 .done))))))))))]
def pl73 : List (Nat × Plan) := [(6, (.pure 0 (.pure 1 (.pure 2 (.pure 4 (.pure 5 (.pure 6 (.read 3 (.read 7 (.pure 8 .done))))))))))]
def pl74 : List (Nat × Plan) := [(6, (.pure 0 (.pure 2 (.pure 5 (.pure 7 (.read 1 (.pure 3 (.read 4 (.read 6 (.pure 8 (.read 9 (.pure 10 .done))))))))))))]
def pl80 : List (Nat × Plan) := [(10, (.pure 0 (.pure 1 (.pure 2 (.pure 3 (.pure 5 (.pure 6 (.pure 7 (.pure 9 (.read 4 (.read 8 (.pure 10 (.read 11 (.pure 12 (.pure 13 (.read 14 (.pure 15 (.eff 16 (.eff 17 (.pure 18 .done))))))))))))))))))))]
def pl84 : List (Nat × Plan) := [(7, (.pure 0 (.pure 1 (.pure 2 (.pure 3 (.pure 5 (.pure 6 (.pure 7 (.read 4 (.read 8 (.eff 9 (.pure 10 (.eff 11 (.pure 12 .done))))))))))))))]
def pl90 : List (Nat × Plan) := [(8, (.pure 0 (.pure 2 (.pure 3 (.pure 4 (.pure 6 (.pure 7 (.pure 8 (.pure 9 (.pure 12 (.pure 13 (.pure 14 (.pure 15 (.pure 19 (.pure 20 (.pure 21 (.read 1 (.read 5 (.read 10 (.read 16 (.read 22 (.eff 11 (.eff 17 (.pure 18 (.pure 23 (.eff 24 (.eff 25 (.eff 26 (.pure 27 (.eff 28 .done))))))))))))))))))))))))))))))]
def pl98 : List (Nat × Plan) := [(9, (.pure 0 (.pure 2 (.pure 3 (.pure 4 (.read 1 (.read 5 (.pure 6 (.pure 7 (.pure 8 (.pure 9 (.read 10 (.eff 11 (.pure 12 (.pure 13 .done)))))))))))))))]
def pl99 : List (Nat × Plan) := [(8, (.pure 0 (.pure 1 (.alt (.eff 2 (.pure 3 (.eff 4 (.pure 5 .done)))) (.eff 4 (.read 2 (.pure 3 (.pure 5 .done))))))))]
def pl104 : List (Nat × Plan) := [(1, (.read 0 (.read 1 (.pure 2 (.pure 3 (.read 4 (.read 5 (.eff 6 (.pure 7 .done)))))))))]
def pl124 : List (Nat × Plan) := [(1, (.pure 0 (.pure 1 (.pure 2 (.pure 4 (.pure 7 (.read 3 (.read 5 (.read 8 (.eff 6 (.pure 9 .done))))))))))),
  (3, (.pure 0 (.pure 1 (.pure 2 (.pure 4 (.read 3 (.read 5 (.eff 6 (.pure 7 .done))))))))),
  (6, (.pure 0 (.pure 1 (.pure 2 (.pure 3 (.pure 5 (.pure 9 (.read 4 (.pure 6 (.pure 7 (.read 8 (.read 10 (.alt (.eff 11 (.pure 12 (.pure 13 (.pure 14 (.eff 15 (.eff 16 (.pure 17 .done))))))) (.eff 15 (.eff 11 (.pure 12 (.pure 13 (.pure 14 (.eff 16 (.pure 17 .done)))))))))))))))))))),
  (7, (.pure 1 (.pure 2 (.pure 3 (.pure 5 (.pure 6 (.read 0 (.read 4 (.read 7 (.eff 8 (.pure 9 .done)))))))))))]
def pl129 : List (Nat × Plan) := [(6, (.pure 0 (.pure 1 (.pure 2 (.pure 4 (.pure 6 (.pure 8 (.pure 9 (.pure 10 (.pure 11 (.pure 13 (.pure 16 (.pure 17 (.pure 18 (.pure 20 (.pure 21 (.pure 22 (.read 3 (.read 5 (.read 7 (.read 12 (.read 14 (.read 19 (.read 23 (.eff 15 (.eff 24 (.pure 25 (.eff 26 (.pure 27 (.pure 28 (.pure 29 (.pure 30 (.pure 31 .done))))))))))))))))))))))))))))))))),
  (12, (.pure 0 (.pure 1 (.pure 2 (.pure 4 (.pure 5 (.pure 6 (.pure 8 (.read 3 (.read 7 (.eff 9 .done)))))))))))]
def pl130 : List (Nat × Plan) := [(8, (.pure 0 (.pure 1 (.pure 2 (.pure 3 (.pure 5 (.pure 6 (.pure 7 (.pure 8 (.pure 9 (.read 4 (.read 10 (.eff 11 (.eff 12 (.eff 13 (.pure 14 (.pure 15 (.eff 16 .done))))))))))))))))))]
def pl131 : List (Nat × Plan) := [(2, (.pure 0 (.pure 1 (.pure 2 (.pure 4 (.pure 6 (.pure 7 (.pure 8 (.pure 10 (.read 3 (.read 5 (.read 9 (.read 11 (.eff 12 (.eff 13 .done)))))))))))))))]
def pl134 : List (Nat × Plan) := [(1, (.pure 0 (.pure 1 (.pure 2 (.pure 4 (.read 3 (.read 5 (.eff 6 (.pure 7 (.pure 8 (.pure 9 (.pure 10 (.pure 11 .done))))))))))))),
  (2, (.pure 0 (.pure 1 (.pure 2 (.pure 4 (.pure 5 (.pure 6 (.pure 7 (.read 3 (.read 8 (.eff 9 .done))))))))))),
  (4, (.pure 0 (.pure 1 (.pure 2 (.pure 4 (.pure 5 (.pure 6 (.read 3 (.read 7 (.eff 8 .done)))))))))),
  (6, (.pure 0 (.pure 1 (.pure 2 (.pure 4 (.pure 5 (.pure 6 (.pure 7 (.read 3 (.read 8 (.eff 9 .done)))))))))))]
def pl135 : List (Nat × Plan) := [(1, (.pure 0 (.pure 1 (.pure 2 (.pure 4 (.pure 5 (.pure 6 (.read 3 (.read 7 (.eff 8 (.pure 9 (.pure 10 (.pure 11 (.pure 12 (.pure 13 .done))))))))))))))),
  (4, (.pure 0 (.pure 1 (.pure 2 (.pure 4 (.pure 6 (.read 3 (.read 5 (.eff 7 .done)))))))))]
def pl140 : List (Nat × Plan) := [(14, (.pure 0 (.pure 1 (.pure 2 (.pure 3 (.read 4 (.pure 5 (.pure 6 (.pure 7 (.pure 8 (.pure 9 (.pure 11 (.pure 12 (.pure 13 (.read 10 (.read 14 (.pure 15 (.pure 16 .done)))))))))))))))))),
  (17, (.pure 0 (.pure 1 (.pure 2 (.pure 4 (.pure 7 (.pure 8 (.pure 9 (.pure 11 (.pure 18 (.read 3 (.pure 5 (.read 6 (.pure 21 (.pure 22 (.read 10 (.pure 12 (.read 13 (.pure 14 (.pure 15 (.pure 16 (.read 17 (.eff 19 (.eff 20 (.pure 23 (.eff 24 .done)))))))))))))))))))))))))),
  (18, (.pure 0 (.pure 1 (.pure 2 (.pure 4 (.pure 7 (.pure 8 (.pure 9 (.pure 11 (.pure 18 (.read 3 (.pure 5 (.read 6 (.pure 21 (.pure 22 (.read 10 (.pure 12 (.read 13 (.pure 14 (.pure 15 (.pure 16 (.read 17 (.eff 19 (.eff 20 (.pure 23 (.eff 24 .done))))))))))))))))))))))))))]
def pl144 : List (Nat × Plan) := [(2, (.pure 0 (.pure 1 (.pure 2 (.pure 4 (.read 3 (.read 5 (.eff 6 .done)))))))),
  (5, (.pure 0 (.pure 1 (.pure 2 (.read 3 (.read 4 (.eff 5 (.eff 6 .done)))))))),
  (6, (.pure 0 (.pure 1 (.pure 2 (.pure 4 (.pure 5 (.pure 6 (.pure 8 (.read 3 (.read 7 (.pure 9 (.read 10 (.eff 11 .done)))))))))))))]
def pl146 : List (Nat × Plan) := [(1, (.pure 0 (.pure 2 (.pure 5 (.pure 7 (.read 1 (.read 3 (.read 6 (.read 8 (.eff 4 (.eff 9 (.eff 10 (.eff 11 (.pure 12 .done))))))))))))))]
def pl152 : List (Nat × Plan) := [(1, (.pure 0 (.pure 1 (.pure 3 (.pure 4 (.pure 5 (.pure 6 (.read 2 (.read 7 (.pure 8 (.pure 9 (.pure 10 (.pure 11 (.eff 12 .done))))))))))))))]
def pl160 : List (Nat × Plan) := [(3, (.pure 0 (.pure 1 (.pure 2 (.pure 4 (.pure 5 (.pure 6 (.read 3 (.pure 8 (.read 7 (.pure 9 .done)))))))))))]
def pl164 : List (Nat × Plan) := [(6, (.pure 5 (.read 0 (.read 1 (.pure 2 (.pure 3 (.read 4 (.pure 6 (.read 7 (.eff 8 (.eff 9 (.eff 10 (.eff 11 .done)))))))))))))]
def pl166 : List (Nat × Plan) := [(1, (.pure 0 (.pure 3 (.read 1 (.read 4 (.eff 2 (.pure 6 (.eff 5 (.eff 7 (.pure 8 (.eff 9 .done)))))))))))]
def pl167 : List (Nat × Plan) := [(6, (.pure 1 (.pure 2 (.pure 3 (.read 0 (.read 4 (.eff 5 .done)))))))]
def pl170 : List (Nat × Plan) := [(1, (.pure 0 (.pure 2 (.pure 5 (.pure 7 (.read 1 (.read 3 (.read 6 (.read 8 (.eff 4 (.eff 9 (.eff 10 (.eff 11 (.pure 12 .done))))))))))))))]
def pl175 : List (Nat × Plan) := [(5, (.pure 0 (.pure 1 (.pure 2 (.pure 3 (.pure 5 (.pure 6 (.pure 7 (.read 4 (.read 8 (.pure 9 (.pure 10 (.read 11 (.pure 12 (.pure 13 (.pure 14 (.eff 15 .done)))))))))))))))))]
def pl185 : List (Nat × Plan) := [(6, (.pure 0 (.pure 1 (.pure 2 (.pure 4 (.pure 5 (.pure 6 (.read 3 (.read 7 (.pure 8 .done))))))))))]
def pl192 : List (Nat × Plan) := [(17, (.pure 0 (.pure 1 (.pure 2 (.pure 3 (.pure 4 (.pure 5 (.pure 6 (.pure 7 (.pure 9 (.pure 10 (.pure 11 (.read 8 (.read 12 (.eff 13 (.pure 14 (.pure 15 (.pure 16 .done))))))))))))))))))]
def pl195 : List (Nat × Plan) := [(3, (.pure 0 (.pure 2 (.pure 4 (.read 1 (.read 3 (.eff 5 (.pure 6 (.pure 7 .done)))))))))]
def pl196 : List (Nat × Plan) := [(8, (.pure 0 (.pure 1 (.pure 2 (.pure 3 (.pure 4 (.pure 5 (.pure 6 (.pure 7 (.pure 9 (.pure 10 (.pure 11 (.read 8 (.read 12 (.pure 13 (.pure 14 .done)))))))))))))))),
  (10, (.pure 0 (.pure 1 (.pure 2 (.pure 3 (.pure 4 (.pure 5 (.pure 6 (.pure 7 (.pure 9 (.pure 10 (.pure 11 (.read 8 (.read 12 (.pure 13 (.pure 14 .done)))))))))))))))),
  (11, (.pure 0 (.pure 1 (.pure 2 (.pure 5 (.pure 6 (.pure 7 (.read 3 (.eff 4 (.eff 8 (.pure 9 .done)))))))))))]
def pl198 : List (Nat × Plan) := [(6, (.pure 0 (.pure 1 (.pure 2 (.pure 3 (.pure 4 (.pure 5 (.pure 6 (.pure 7 (.pure 9 (.pure 10 (.pure 11 (.read 8 (.read 12 (.pure 13 (.pure 14 .done)))))))))))))))),
  (8, (.pure 0 (.pure 1 (.pure 2 (.pure 5 (.pure 6 (.pure 7 (.read 3 (.eff 4 (.eff 8 (.pure 9 .done)))))))))))]
def q204_22_0 : Plan := (.pure 17 (.eff 18 .done))
def q204_22_1 : Plan := (.eff 16 q204_22_0)
def q204_22_2 : Plan := (.read 14 q204_22_0)
def q204_22_3 : Plan := (.alt (.eff 14 q204_22_1) (.eff 16 q204_22_2))
def q204_22_4 : Plan := (.eff 13 (.pure 15 q204_22_1))
def q204_22_5 : Plan := (.alt (.eff 11 q204_22_1) (.eff 16 (.read 11 q204_22_0)))
def pl204 : List (Nat × Plan) := [(20, (.pure 0 (.pure 1 (.pure 2 (.pure 5 (.read 3 (.pure 4 (.read 6 (.pure 7 .done))))))))),
  (21, (.pure 0 (.pure 1 (.pure 2 (.pure 3 (.pure 4 (.pure 6 (.pure 9 (.pure 10 (.pure 11 (.pure 13 (.read 5 (.read 12 (.alt (.eff 7 (.alt (.eff 8 (.eff 14 (.eff 15 (.pure 16 (.pure 17 (.eff 18 (.pure 19 (.pure 20 (.eff 21 .done))))))))) (.eff 14 (.eff 8 (.eff 15 (.pure 16 (.pure 17 (.eff 18 (.pure 19 (.pure 20 (.eff 21 .done))))))))))) (.eff 14 (.eff 7 (.eff 8 (.eff 15 (.pure 16 (.pure 17 (.eff 18 (.pure 19 (.pure 20 (.eff 21 .done)))))))))))))))))))))))),
  (22, (.pure 0 (.pure 1 (.pure 2 (.pure 4 (.pure 6 (.pure 7 (.pure 8 (.pure 10 (.read 3 (.read 5 (.read 9 (.read 12 (.alt (.eff 11 (.alt (.eff 13 (.pure 15 q204_22_3)) (.eff 14 q204_22_4))) (.alt (.eff 13 (.pure 15 (.alt (.eff 11 q204_22_3) (.alt (.eff 14 q204_22_5) (.eff 16 (.read 11 q204_22_2)))))) (.eff 14 (.alt (.eff 11 q204_22_4) (.eff 13 (.pure 15 q204_22_5))))))))))))))))))),
  (23, (.pure 0 (.pure 1 (.pure 2 (.pure 4 (.pure 6 (.read 3 (.read 5 (.read 7 (.eff 8 .done)))))))))),
  (24, (.pure 0 (.pure 1 (.pure 2 (.pure 4 (.read 3 (.read 5 (.eff 6 .done))))))))]
def pl206 : List (Nat × Plan) := [(23, (.pure 0 (.pure 1 (.pure 2 (.pure 4 (.pure 5 (.pure 6 (.pure 7 (.pure 9 (.pure 11 (.read 3 (.read 8 (.read 10 (.eff 12 (.eff 13 (.eff 14 .done))))))))))))))))]
def pl211 : List (Nat × Plan) := [(13, (.pure 0 (.pure 1 (.pure 2 (.pure 3 (.pure 4 (.pure 5 (.pure 7 (.pure 8 (.pure 12 (.pure 13 (.pure 14 (.read 6 (.pure 9 (.pure 10 (.read 11 (.read 15 (.pure 16 (.pure 17 .done))))))))))))))))))),
  (14, (.pure 0 (.pure 1 (.pure 2 (.pure 4 (.pure 5 (.read 3 (.read 6 (.pure 7 (.eff 8 .done)))))))))),
  (15, (.pure 0 (.pure 1 (.pure 2 (.pure 3 (.read 4 (.read 5 (.eff 6 (.eff 7 (.pure 8 (.pure 9 (.eff 10 .done))))))))))))]
def pl215 : List (Nat × Plan) := [(6, (.pure 0 (.pure 1 (.pure 2 (.pure 4 (.pure 7 (.pure 8 (.pure 9 (.pure 10 (.pure 12 (.pure 19 (.read 3 (.pure 5 (.read 6 (.pure 21 (.pure 22 (.read 11 (.pure 13 (.read 14 (.pure 15 (.pure 16 (.pure 17 (.read 18 (.eff 20 (.pure 23 (.eff 24 .done)))))))))))))))))))))))))),
  (7, (.pure 0 (.pure 1 (.pure 2 (.pure 4 (.pure 7 (.pure 8 (.pure 9 (.pure 10 (.pure 12 (.pure 19 (.read 3 (.pure 5 (.read 6 (.pure 21 (.pure 22 (.read 11 (.pure 13 (.read 14 (.pure 15 (.pure 16 (.pure 17 (.read 18 (.eff 20 (.pure 23 (.eff 24 .done))))))))))))))))))))))))))]
def pl225 : List (Nat × Plan) := [(11, (.pure 0 (.pure 1 (.pure 2 (.pure 4 (.pure 7 (.pure 8 (.pure 9 (.read 3 (.pure 5 (.read 6 (.read 10 (.pure 11 (.pure 12 (.eff 13 .done))))))))))))))),
  (24, (.pure 0 (.pure 1 (.pure 2 (.pure 4 (.pure 5 (.read 3 (.eff 6 (.pure 7 (.read 8 (.pure 9 .done))))))))))),
  (25, (.pure 0 (.pure 1 (.pure 2 (.pure 4 (.pure 5 (.pure 6 (.read 3 (.read 7 (.pure 8 .done))))))))))]
def pl227 : List (Nat × Plan) := [(4, (.pure 0 (.pure 1 (.pure 2 (.pure 6 (.pure 7 (.pure 8 (.read 3 (.pure 4 (.pure 5 (.read 9 (.pure 10 (.pure 11 .done))))))))))))),
  (7, (.pure 0 (.pure 1 (.pure 3 (.pure 4 (.pure 5 (.read 6 (.pure 7 (.eff 2 (.pure 8 (.eff 9 .done)))))))))))]
def pl230 : List (Nat × Plan) := [(4, (.pure 0 (.pure 1 (.pure 2 (.pure 4 (.pure 6 (.pure 7 (.pure 8 (.read 3 (.read 5 (.pure 12 (.read 9 (.pure 10 (.pure 11 (.pure 13 .done)))))))))))))))]
def pl231 : List (Nat × Plan) := [(12, (.pure 0 (.pure 1 (.pure 2 (.pure 4 (.pure 5 (.pure 6 (.pure 7 (.pure 9 (.read 3 (.read 8 (.pure 10 (.read 11 (.pure 12 (.eff 13 .done)))))))))))))))]
def pl235 : List (Nat × Plan) := [(5, (.pure 0 (.pure 1 (.pure 2 (.pure 4 (.pure 6 (.read 3 (.read 5 (.read 7 (.pure 8 (.pure 9 (.pure 10 (.eff 11 .done))))))))))))),
  (6, (.pure 0 (.pure 1 (.pure 2 (.pure 3 (.pure 5 (.read 4 (.read 6 (.eff 7 (.eff 8 (.pure 9 (.pure 10 (.eff 11 .done)))))))))))))]
def pl236 : List (Nat × Plan) := [(17, (.pure 0 (.pure 1 (.pure 2 (.pure 3 (.pure 4 (.pure 5 (.pure 6 (.pure 7 (.pure 9 (.pure 10 (.pure 11 (.read 8 (.read 12 (.eff 13 (.pure 14 (.pure 15 (.pure 16 .done))))))))))))))))))]
def pl240 : List (Nat × Plan) := [(9, (.pure 0 (.pure 1 (.pure 2 (.pure 4 (.pure 5 (.read 3 (.read 6 (.pure 7 (.pure 8 (.pure 9 .done)))))))))))]
def pl242 : List (Nat × Plan) := [(3, (.pure 0 (.pure 1 (.pure 2 (.pure 4 (.pure 5 (.pure 6 (.pure 8 (.read 3 (.read 7 (.eff 9 (.pure 10 (.pure 11 .done)))))))))))))]
def pl244 : List (Nat × Plan) := [(6, (.pure 0 (.pure 1 (.pure 2 (.pure 4 (.pure 5 (.pure 6 (.pure 7 (.read 3 (.read 8 (.pure 9 .done))))))))))),
  (11, (.pure 0 (.pure 1 (.pure 2 (.pure 4 (.pure 5 (.pure 6 (.pure 7 (.read 3 (.read 8 (.pure 9 .done)))))))))))]
def pl253 : List (Nat × Plan) := [(13, (.pure 0 (.pure 1 (.pure 2 (.pure 4 (.pure 5 (.pure 6 (.pure 7 (.pure 8 (.read 3 (.eff 9 (.eff 10 .done))))))))))))]
def pl254 : List (Nat × Plan) := [(3, (.pure 0 (.pure 1 (.pure 2 (.pure 3 (.pure 5 (.pure 6 (.pure 7 (.pure 8 (.read 4 (.pure 10 (.read 9 (.pure 11 .done)))))))))))))]
def pl255 : List (Nat × Plan) := [(6, (.pure 0 (.pure 1 (.pure 2 (.pure 4 (.pure 5 (.pure 6 (.read 3 (.read 7 (.pure 8 .done))))))))))]
def pl260 : List (Nat × Plan) := [(3, (.pure 1 (.pure 2 (.pure 3 (.pure 4 (.read 0 (.read 5 (.pure 6 (.eff 7 (.eff 8 (.eff 9 .done)))))))))))]
def pl262 : List (Nat × Plan) := [(17, (.pure 0 (.pure 1 (.pure 2 (.pure 3 (.pure 4 (.pure 5 (.pure 6 (.pure 7 (.pure 9 (.pure 10 (.pure 11 (.read 8 (.read 12 (.eff 13 (.pure 14 (.pure 15 (.pure 16 .done))))))))))))))))))]
def pl267 : List (Nat × Plan) := [(1, (.pure 0 (.pure 2 (.pure 3 (.pure 4 (.pure 7 (.pure 8 (.pure 9 (.read 1 (.read 5 (.read 10 (.eff 6 (.eff 11 (.pure 12 .done))))))))))))))]
def pl278 : List (Nat × Plan) := [(17, (.pure 0 (.pure 1 (.pure 2 (.pure 3 (.pure 4 (.pure 5 .done)))))))]
def pl283 : List (Nat × Plan) := [(4, (.pure 0 (.pure 1 (.pure 2 (.pure 3 (.pure 4 (.pure 5 (.pure 6 (.pure 7 (.pure 9 (.pure 10 (.pure 11 (.pure 12 (.read 8 (.read 13 (.eff 14 (.pure 15 (.pure 16 .done)))))))))))))))))),
  (6, (.pure 0 (.pure 1 (.pure 2 (.pure 3 (.pure 4 (.pure 5 (.pure 6 (.pure 7 (.pure 8 (.pure 10 (.pure 11 (.pure 12 (.read 9 (.read 13 (.pure 14 (.eff 15 (.pure 16 (.eff 17 .done)))))))))))))))))))]
def pl284 : List (Nat × Plan) := [(10, (.pure 0 (.pure 1 (.pure 2 (.pure 3 (.pure 4 (.pure 5 (.pure 6 (.pure 7 (.pure 8 (.pure 9 (.pure 10 (.pure 12 (.pure 13 (.pure 14 (.read 11 (.read 15 (.pure 16 (.eff 17 (.pure 18 (.eff 19 .done)))))))))))))))))))))]
def pl285 : List (Nat × Plan) := [(10, (.pure 0 (.pure 1 (.pure 2 (.pure 3 (.pure 4 (.pure 5 (.pure 6 (.pure 7 (.pure 8 (.pure 9 (.pure 10 (.pure 12 (.pure 13 (.pure 14 (.read 11 (.read 15 (.pure 16 (.eff 17 (.pure 18 (.eff 19 .done)))))))))))))))))))))]
def pl287 : List (Nat × Plan) := [(3, (.pure 0 (.pure 1 (.pure 2 (.pure 3 (.pure 4 (.pure 5 (.pure 6 (.pure 8 (.pure 9 (.pure 10 (.read 7 (.read 11 (.pure 12 (.eff 13 (.pure 14 (.eff 15 .done)))))))))))))))))]
def pl288 : List (Nat × Plan) := [(5, (.pure 0 (.pure 1 (.pure 2 (.pure 3 (.pure 4 (.pure 5 (.pure 6 (.pure 7 (.pure 9 (.pure 10 (.pure 11 (.pure 12 (.read 8 (.read 13 (.eff 14 (.pure 15 (.pure 16 (.pure 17 .done))))))))))))))))))),
  (11, (.pure 0 (.pure 1 (.pure 2 (.pure 3 (.pure 4 (.pure 5 (.pure 6 (.pure 7 (.pure 8 (.pure 10 (.pure 11 (.pure 12 (.read 9 (.read 13 (.pure 14 (.eff 15 (.pure 16 (.eff 17 .done))))))))))))))))))),
  (16, (.pure 0 (.pure 1 (.pure 2 (.pure 3 (.pure 5 (.pure 6 (.pure 7 (.pure 8 (.read 4 (.read 9 (.eff 10 (.pure 11 (.pure 12 .done)))))))))))))),
  (17, (.pure 0 (.pure 1 (.pure 2 (.pure 3 (.pure 4 (.pure 5 (.pure 6 (.pure 7 (.pure 8 (.pure 10 (.pure 11 (.pure 12 (.read 9 (.read 13 (.pure 14 (.eff 15 (.pure 16 (.eff 17 .done))))))))))))))))))),
  (22, (.pure 0 (.pure 1 (.pure 2 (.pure 3 (.pure 5 (.pure 6 (.pure 7 (.pure 8 (.read 4 (.read 9 (.eff 10 (.pure 11 (.pure 12 .done)))))))))))))),
  (23, (.pure 0 (.pure 1 (.pure 2 (.pure 3 (.pure 4 (.pure 5 (.pure 6 (.pure 7 (.pure 8 (.pure 10 (.pure 11 (.pure 12 (.read 9 (.read 13 (.pure 14 (.eff 15 (.pure 16 (.eff 17 .done)))))))))))))))))))]
def pl289 : List (Nat × Plan) := [(1, (.pure 0 (.pure 1 (.pure 2 (.pure 3 (.pure 4 (.pure 5 (.pure 6 (.pure 8 (.pure 9 (.pure 10 (.read 7 (.read 11 (.pure 12 (.eff 13 (.pure 14 (.eff 15 .done))))))))))))))))),
  (3, (.pure 0 (.pure 1 (.pure 2 (.pure 3 (.pure 4 (.pure 5 (.pure 6 (.pure 7 (.pure 9 (.pure 10 (.pure 11 (.read 8 (.read 12 (.eff 13 (.pure 14 (.pure 15 (.pure 16 .done)))))))))))))))))),
  (5, (.pure 0 (.pure 1 (.pure 2 (.pure 3 (.pure 4 (.pure 5 (.pure 6 (.pure 7 (.pure 9 (.pure 10 (.pure 11 (.read 8 (.read 12 (.eff 13 (.pure 14 (.pure 15 .done))))))))))))))))),
  (8, (.pure 0 (.pure 1 (.pure 2 (.pure 3 (.pure 4 (.pure 5 (.pure 6 (.pure 8 (.pure 9 (.pure 10 (.read 7 (.read 11 (.pure 12 (.eff 13 (.pure 14 (.eff 15 .done)))))))))))))))))]
def pl290 : List (Nat × Plan) := [(1, (.pure 0 (.pure 1 (.pure 2 (.pure 3 (.pure 4 (.pure 5 (.pure 6 (.pure 8 (.pure 9 (.pure 10 (.read 7 (.read 11 (.pure 12 (.eff 13 (.pure 14 (.eff 15 .done))))))))))))))))),
  (3, (.pure 0 (.pure 1 (.pure 2 (.pure 3 (.pure 4 (.pure 5 (.pure 6 (.pure 7 (.pure 9 (.pure 10 (.pure 11 (.read 8 (.read 12 (.eff 13 (.pure 14 (.pure 15 .done))))))))))))))))),
  (5, (.pure 0 (.pure 1 (.pure 2 (.pure 3 (.pure 4 (.pure 5 (.pure 6 (.pure 7 (.pure 9 (.pure 10 (.pure 11 (.read 8 (.read 12 (.eff 13 (.pure 14 (.pure 15 (.pure 16 .done)))))))))))))))))),
  (8, (.pure 0 (.pure 1 (.pure 2 (.pure 3 (.pure 4 (.pure 5 (.pure 6 (.pure 8 (.pure 9 (.pure 10 (.read 7 (.read 11 (.pure 12 (.eff 13 (.pure 14 (.eff 15 .done))))))))))))))))),
  (10, (.pure 0 (.pure 1 (.pure 2 (.pure 3 (.pure 4 (.pure 5 (.pure 6 (.pure 8 (.pure 9 (.pure 10 (.read 7 (.read 11 (.pure 12 (.eff 13 (.pure 14 (.eff 15 .done))))))))))))))))),
  (13, (.pure 0 (.pure 1 (.pure 2 (.pure 3 (.pure 4 (.pure 5 (.pure 6 (.pure 7 (.pure 9 (.pure 10 (.pure 11 (.read 8 (.read 12 (.eff 13 (.pure 14 (.pure 15 .done))))))))))))))))),
  (15, (.pure 0 (.pure 1 (.pure 2 (.pure 3 (.pure 4 (.pure 5 (.pure 6 (.pure 7 (.pure 9 (.pure 10 (.pure 11 (.read 8 (.read 12 (.eff 13 (.pure 14 (.pure 15 (.pure 16 .done)))))))))))))))))),
  (18, (.pure 0 (.pure 1 (.pure 2 (.pure 3 (.pure 4 (.pure 5 (.pure 6 (.pure 8 (.pure 9 (.pure 10 (.read 7 (.read 11 (.pure 12 (.eff 13 (.pure 14 (.eff 15 .done))))))))))))))))),
  (21, (.pure 0 (.pure 1 (.pure 2 (.pure 3 (.pure 4 (.pure 5 (.pure 6 (.pure 8 (.pure 9 (.pure 10 (.read 7 (.read 11 (.pure 12 (.eff 13 (.pure 14 (.eff 15 .done)))))))))))))))))]
def pl296 : List (Nat × Plan) := [(5, (.pure 1 (.pure 3 (.pure 6 (.read 0 (.read 2 (.pure 4 (.read 5 (.read 7 (.eff 8 (.pure 9 (.pure 10 (.pure 11 (.pure 12 (.pure 13 .done)))))))))))))))]
def pl298 : List (Nat × Plan) := [(4, (.pure 1 (.pure 3 (.pure 8 (.read 0 (.read 2 (.pure 4 (.read 5 (.read 9 (.eff 6 (.pure 7 (.pure 10 .done))))))))))))]
def pl302 : List (Nat × Plan) := [(6, (.pure 0 (.pure 1 (.pure 2 (.pure 4 (.pure 5 (.pure 6 (.read 3 (.read 7 (.pure 8 .done))))))))))]
def pl303 : List (Nat × Plan) := [(3, (.pure 0 (.pure 1 (.pure 2 (.pure 3 (.pure 5 (.pure 6 (.pure 7 (.pure 8 (.read 4 (.pure 10 (.read 9 (.pure 11 .done)))))))))))))]
def pl306 : List (Nat × Plan) := [(7, (.pure 0 (.pure 1 (.pure 2 (.pure 4 (.pure 5 (.pure 6 (.pure 7 (.pure 9 (.read 3 (.read 8 (.pure 10 (.read 11 (.pure 12 (.pure 13 (.eff 14 .done)))))))))))))))),
  (9, (.pure 0 (.pure 1 (.pure 2 (.pure 5 (.pure 6 (.pure 7 (.read 3 (.pure 4 (.read 8 (.pure 9 (.pure 10 .done))))))))))))]
def pl307 : List (Nat × Plan) := [(9, (.pure 0 (.pure 1 (.pure 2 (.pure 6 (.pure 7 (.pure 8 (.read 3 (.pure 4 (.pure 5 (.read 9 (.pure 10 (.pure 11 (.pure 12 .done))))))))))))))]
def pl311 : List (Nat × Plan) := [(11, (.pure 0 (.pure 1 (.pure 2 (.pure 4 (.pure 5 (.pure 6 (.read 3 (.read 7 (.pure 8 .done)))))))))),
  (15, (.pure 0 (.pure 1 (.pure 2 (.pure 3 (.pure 7 (.pure 8 (.pure 9 (.read 4 (.pure 5 (.read 6 (.pure 12 (.read 10 (.pure 11 (.pure 13 (.pure 14 (.eff 15 .done))))))))))))))))),
  (19, (.pure 0 (.pure 1 (.pure 2 (.pure 4 (.pure 5 (.pure 6 (.read 3 (.read 7 (.pure 8 (.pure 9 .done))))))))))),
  (23, (.pure 0 (.pure 1 (.pure 2 (.pure 4 (.pure 5 (.pure 6 (.pure 7 (.pure 9 (.read 3 (.read 8 (.pure 10 (.pure 11 (.eff 12 (.pure 13 (.eff 14 .done))))))))))))))))]
def pl319 : List (Nat × Plan) := [(4, (.pure 0 (.pure 1 (.pure 2 (.pure 3 (.pure 6 (.pure 7 (.pure 8 (.pure 9 (.read 4 (.pure 5 (.read 10 (.pure 11 (.pure 12 (.pure 13 .done))))))))))))))),
  (17, (.pure 0 (.pure 1 (.pure 2 (.pure 3 (.pure 4 (.pure 6 (.pure 7 (.pure 8 (.pure 9 (.read 5 (.read 10 (.pure 11 (.eff 12 .done))))))))))))))]
def pl321 : List (Nat × Plan) := [(3, (.pure 0 (.pure 1 (.pure 2 (.pure 4 (.pure 5 (.pure 6 (.read 3 (.pure 8 (.read 7 (.pure 9 .done)))))))))))]
def pl323 : List (Nat × Plan) := [(1, (.pure 0 (.pure 1 (.pure 2 (.pure 4 (.pure 6 (.pure 7 (.pure 8 (.read 3 (.read 9 (.pure 10 (.pure 11 (.eff 5 (.pure 12 (.pure 13 .done))))))))))))))),
  (2, (.pure 0 (.pure 1 (.pure 2 (.pure 4 (.read 3 (.pure 5 (.read 6 (.pure 7 (.pure 8 (.pure 9 (.pure 10 (.pure 11 (.pure 13 (.pure 14 (.pure 15 (.pure 17 (.pure 26 (.read 12 (.read 16 (.pure 18 (.read 19 (.pure 20 (.pure 21 (.read 22 (.pure 23 (.pure 24 (.read 25 (.pure 27 (.pure 28 .done))))))))))))))))))))))))))))))]
def pl326 : List (Nat × Plan) := [(0, (.pure 0 (.pure 1 (.pure 2 (.pure 4 (.pure 5 (.pure 6 (.pure 7 (.pure 9 (.pure 10 (.pure 11 (.pure 12 (.pure 14 (.pure 17 (.pure 18 (.pure 19 (.pure 21 (.read 3 (.read 8 (.read 13 (.pure 15 (.read 16 (.read 20 (.pure 22 (.read 23 (.pure 24 (.eff 25 (.pure 26 (.eff 27 .done))))))))))))))))))))))))))))),
  (1, (.pure 0 (.pure 1 (.pure 2 (.pure 4 (.pure 5 (.pure 6 (.pure 8 (.pure 12 (.pure 13 (.pure 14 (.pure 16 (.pure 17 (.pure 18 (.pure 20 (.pure 24 (.pure 25 (.read 3 (.read 15 (.read 19 (.pure 21 (.pure 22 (.read 23 (.eff 7 (.pure 9 (.pure 10 (.read 11 (.eff 26 (.pure 27 (.eff 28 (.eff 29 (.pure 30 (.eff 31 .done)))))))))))))))))))))))))))))))))]
def pl330 : List (Nat × Plan) := [(1, (.pure 0 (.pure 1 (.pure 2 (.pure 4 (.pure 6 (.pure 7 (.pure 8 (.read 3 (.read 9 (.pure 10 (.eff 5 (.eff 11 (.pure 12 (.pure 13 (.pure 14 (.pure 15 (.pure 16 .done))))))))))))))))))]
def pl331 : List (Nat × Plan) := [(7, (.pure 0 (.pure 1 (.pure 2 (.pure 4 (.read 3 (.read 5 (.pure 6 (.eff 7 .done)))))))))]
def pl333 : List (Nat × Plan) := [(2, (.pure 0 (.pure 1 (.pure 2 (.pure 4 (.read 3 (.read 5 (.eff 6 .done)))))))),
  (5, (.pure 0 (.pure 1 (.pure 2 (.pure 4 (.read 3 (.read 5 (.eff 6 .done))))))))]
def pl338 : List (Nat × Plan) := [(4, (.pure 0 (.pure 1 (.pure 2 (.pure 3 (.pure 4 (.pure 5 (.pure 6 (.pure 7 (.pure 9 (.pure 10 (.pure 11 (.pure 12 (.read 8 (.read 13 (.eff 14 (.pure 15 (.pure 16 .done)))))))))))))))))),
  (6, (.pure 0 (.pure 1 (.pure 2 (.pure 3 (.pure 4 (.pure 5 (.pure 6 (.pure 7 (.pure 8 (.pure 10 (.pure 11 (.pure 12 (.read 9 (.read 13 (.pure 14 (.eff 15 (.pure 16 (.eff 17 .done)))))))))))))))))))]
def pl339 : List (Nat × Plan) := [(10, (.pure 0 (.pure 1 (.pure 2 (.pure 3 (.pure 4 (.pure 5 (.pure 6 (.pure 7 (.pure 8 (.pure 9 (.pure 10 (.pure 12 (.pure 13 (.pure 14 (.read 11 (.read 15 (.pure 16 (.eff 17 (.pure 18 (.eff 19 .done)))))))))))))))))))))]
def pl340 : List (Nat × Plan) := [(10, (.pure 0 (.pure 1 (.pure 2 (.pure 3 (.pure 4 (.pure 5 (.pure 6 (.pure 7 (.pure 8 (.pure 9 (.pure 10 (.pure 12 (.pure 13 (.pure 14 (.read 11 (.read 15 (.pure 16 (.eff 17 (.pure 18 (.eff 19 .done)))))))))))))))))))))]
def pl342 : List (Nat × Plan) := [(3, (.pure 0 (.pure 1 (.pure 2 (.pure 3 (.pure 4 (.pure 5 (.pure 6 (.pure 8 (.pure 9 (.pure 10 (.read 7 (.read 11 (.pure 12 (.eff 13 (.pure 14 (.eff 15 .done)))))))))))))))))]
def pl343 : List (Nat × Plan) := [(5, (.pure 0 (.pure 1 (.pure 2 (.pure 3 (.pure 4 (.pure 5 (.pure 6 (.pure 7 (.pure 9 (.pure 10 (.pure 11 (.pure 12 (.read 8 (.read 13 (.eff 14 (.pure 15 (.pure 16 (.pure 17 .done))))))))))))))))))),
  (11, (.pure 0 (.pure 1 (.pure 2 (.pure 3 (.pure 4 (.pure 5 (.pure 6 (.pure 7 (.pure 8 (.pure 10 (.pure 11 (.pure 12 (.read 9 (.read 13 (.pure 14 (.eff 15 (.pure 16 (.eff 17 .done))))))))))))))))))),
  (16, (.pure 0 (.pure 1 (.pure 2 (.pure 3 (.pure 5 (.pure 6 (.pure 7 (.pure 8 (.read 4 (.read 9 (.eff 10 (.pure 11 (.pure 12 .done)))))))))))))),
  (17, (.pure 0 (.pure 1 (.pure 2 (.pure 3 (.pure 4 (.pure 5 (.pure 6 (.pure 7 (.pure 8 (.pure 10 (.pure 11 (.pure 12 (.read 9 (.read 13 (.pure 14 (.eff 15 (.pure 16 (.eff 17 .done))))))))))))))))))),
  (22, (.pure 0 (.pure 1 (.pure 2 (.pure 3 (.pure 5 (.pure 6 (.pure 7 (.pure 8 (.read 4 (.read 9 (.eff 10 (.pure 11 (.pure 12 .done)))))))))))))),
  (23, (.pure 0 (.pure 1 (.pure 2 (.pure 3 (.pure 4 (.pure 5 (.pure 6 (.pure 7 (.pure 8 (.pure 10 (.pure 11 (.pure 12 (.read 9 (.read 13 (.pure 14 (.eff 15 (.pure 16 (.eff 17 .done)))))))))))))))))))]
def pl344 : List (Nat × Plan) := [(1, (.pure 0 (.pure 1 (.pure 2 (.pure 3 (.pure 4 (.pure 5 (.pure 6 (.pure 8 (.pure 9 (.pure 10 (.read 7 (.read 11 (.pure 12 (.eff 13 (.pure 14 (.eff 15 .done))))))))))))))))),
  (3, (.pure 0 (.pure 1 (.pure 2 (.pure 3 (.pure 4 (.pure 5 (.pure 6 (.pure 7 (.pure 9 (.pure 10 (.pure 11 (.read 8 (.read 12 (.eff 13 (.pure 14 (.pure 15 (.pure 16 .done)))))))))))))))))),
  (5, (.pure 0 (.pure 1 (.pure 2 (.pure 3 (.pure 4 (.pure 5 (.pure 6 (.pure 7 (.pure 9 (.pure 10 (.pure 11 (.read 8 (.read 12 (.eff 13 (.pure 14 (.pure 15 .done))))))))))))))))),
  (8, (.pure 0 (.pure 1 (.pure 2 (.pure 3 (.pure 4 (.pure 5 (.pure 6 (.pure 8 (.pure 9 (.pure 10 (.read 7 (.read 11 (.pure 12 (.eff 13 (.pure 14 (.eff 15 .done)))))))))))))))))]
def pl345 : List (Nat × Plan) := [(1, (.pure 0 (.pure 1 (.pure 2 (.pure 3 (.pure 4 (.pure 5 (.pure 6 (.pure 8 (.pure 9 (.pure 10 (.read 7 (.read 11 (.pure 12 (.eff 13 (.pure 14 (.eff 15 .done))))))))))))))))),
  (3, (.pure 0 (.pure 1 (.pure 2 (.pure 3 (.pure 4 (.pure 5 (.pure 6 (.pure 7 (.pure 9 (.pure 10 (.pure 11 (.read 8 (.read 12 (.eff 13 (.pure 14 (.pure 15 .done))))))))))))))))),
  (5, (.pure 0 (.pure 1 (.pure 2 (.pure 3 (.pure 4 (.pure 5 (.pure 6 (.pure 7 (.pure 9 (.pure 10 (.pure 11 (.read 8 (.read 12 (.eff 13 (.pure 14 (.pure 15 (.pure 16 .done)))))))))))))))))),
  (8, (.pure 0 (.pure 1 (.pure 2 (.pure 3 (.pure 4 (.pure 5 (.pure 6 (.pure 8 (.pure 9 (.pure 10 (.read 7 (.read 11 (.pure 12 (.eff 13 (.pure 14 (.eff 15 .done))))))))))))))))),
  (10, (.pure 0 (.pure 1 (.pure 2 (.pure 3 (.pure 4 (.pure 5 (.pure 6 (.pure 8 (.pure 9 (.pure 10 (.read 7 (.read 11 (.pure 12 (.eff 13 (.pure 14 (.eff 15 .done))))))))))))))))),
  (13, (.pure 0 (.pure 1 (.pure 2 (.pure 3 (.pure 4 (.pure 5 (.pure 6 (.pure 7 (.pure 9 (.pure 10 (.pure 11 (.read 8 (.read 12 (.eff 13 (.pure 14 (.pure 15 .done))))))))))))))))),
  (15, (.pure 0 (.pure 1 (.pure 2 (.pure 3 (.pure 4 (.pure 5 (.pure 6 (.pure 7 (.pure 9 (.pure 10 (.pure 11 (.read 8 (.read 12 (.eff 13 (.pure 14 (.pure 15 (.pure 16 .done)))))))))))))))))),
  (18, (.pure 0 (.pure 1 (.pure 2 (.pure 3 (.pure 4 (.pure 5 (.pure 6 (.pure 8 (.pure 9 (.pure 10 (.read 7 (.read 11 (.pure 12 (.eff 13 (.pure 14 (.eff 15 .done))))))))))))))))),
  (21, (.pure 0 (.pure 1 (.pure 2 (.pure 3 (.pure 4 (.pure 5 (.pure 6 (.pure 8 (.pure 9 (.pure 10 (.read 7 (.read 11 (.pure 12 (.eff 13 (.pure 14 (.eff 15 .done)))))))))))))))))]
def pl347 : List (Nat × Plan) := [(1, (.pure 0 (.pure 1 (.pure 2 (.pure 4 (.pure 5 (.pure 6 (.pure 8 (.pure 10 (.pure 11 (.pure 12 (.read 3 (.read 7 (.read 13 (.pure 14 (.pure 15 (.eff 9 (.pure 16 (.pure 17 (.pure 18 .done))))))))))))))))))))]
def pl349 : List (Nat × Plan) := [(11, (.pure 0 (.pure 1 (.pure 2 (.pure 3 (.pure 4 (.pure 5 (.pure 6 (.pure 7 (.eff 8 .done)))))))))),
  (15, (.pure 0 (.pure 1 (.pure 2 (.pure 3 (.pure 4 (.pure 5 (.pure 6 (.pure 7 (.eff 8 .done))))))))))]
def pl352 : List (Nat × Plan) := [(17, (.pure 0 (.pure 1 (.pure 2 (.pure 3 (.pure 4 (.pure 5 (.pure 6 (.pure 8 (.pure 9 (.pure 10 (.read 7 (.read 11 (.eff 12 (.pure 13 (.pure 14 .done))))))))))))))))]
def pl360 : List (Nat × Plan) := [(5, (.pure 0 (.pure 1 (.pure 2 (.pure 3 (.pure 4 (.pure 5 (.eff 6 (.pure 7 .done)))))))))]
def pl363 : List (Nat × Plan) := [(4, (.pure 0 (.pure 1 (.pure 2 (.pure 3 (.pure 4 (.pure 5 (.pure 6 (.pure 7 (.pure 9 (.pure 10 (.pure 11 (.pure 12 (.read 8 (.read 13 (.eff 14 (.pure 15 (.pure 16 .done)))))))))))))))))),
  (6, (.pure 0 (.pure 1 (.pure 2 (.pure 3 (.pure 4 (.pure 5 (.pure 6 (.pure 7 (.pure 8 (.pure 10 (.pure 11 (.pure 12 (.read 9 (.read 13 (.pure 14 (.eff 15 (.pure 16 (.eff 17 .done)))))))))))))))))))]
def pl364 : List (Nat × Plan) := [(10, (.pure 0 (.pure 1 (.pure 2 (.pure 3 (.pure 4 (.pure 5 (.pure 6 (.pure 7 (.pure 8 (.pure 9 (.pure 10 (.pure 12 (.pure 13 (.pure 14 (.read 11 (.read 15 (.pure 16 (.eff 17 (.pure 18 (.eff 19 .done)))))))))))))))))))))]
def pl365 : List (Nat × Plan) := [(10, (.pure 0 (.pure 1 (.pure 2 (.pure 3 (.pure 4 (.pure 5 (.pure 6 (.pure 7 (.pure 8 (.pure 9 (.pure 10 (.pure 12 (.pure 13 (.pure 14 (.read 11 (.read 15 (.pure 16 (.eff 17 (.pure 18 (.eff 19 .done)))))))))))))))))))))]
def pl367 : List (Nat × Plan) := [(3, (.pure 0 (.pure 1 (.pure 2 (.pure 3 (.pure 4 (.pure 5 (.pure 6 (.pure 8 (.pure 9 (.pure 10 (.read 7 (.read 11 (.pure 12 (.eff 13 (.pure 14 (.eff 15 .done)))))))))))))))))]
def pl368 : List (Nat × Plan) := [(5, (.pure 0 (.pure 1 (.pure 2 (.pure 3 (.pure 4 (.pure 5 (.pure 6 (.pure 7 (.pure 9 (.pure 10 (.pure 11 (.pure 12 (.read 8 (.read 13 (.eff 14 (.pure 15 (.pure 16 (.pure 17 .done))))))))))))))))))),
  (11, (.pure 0 (.pure 1 (.pure 2 (.pure 3 (.pure 4 (.pure 5 (.pure 6 (.pure 7 (.pure 8 (.pure 10 (.pure 11 (.pure 12 (.read 9 (.read 13 (.pure 14 (.eff 15 (.pure 16 (.eff 17 .done))))))))))))))))))),
  (16, (.pure 0 (.pure 1 (.pure 2 (.pure 3 (.pure 5 (.pure 6 (.pure 7 (.pure 8 (.read 4 (.read 9 (.eff 10 (.pure 11 (.pure 12 .done)))))))))))))),
  (17, (.pure 0 (.pure 1 (.pure 2 (.pure 3 (.pure 4 (.pure 5 (.pure 6 (.pure 7 (.pure 8 (.pure 10 (.pure 11 (.pure 12 (.read 9 (.read 13 (.pure 14 (.eff 15 (.pure 16 (.eff 17 .done))))))))))))))))))),
  (22, (.pure 0 (.pure 1 (.pure 2 (.pure 3 (.pure 5 (.pure 6 (.pure 7 (.pure 8 (.read 4 (.read 9 (.eff 10 (.pure 11 (.pure 12 .done)))))))))))))),
  (23, (.pure 0 (.pure 1 (.pure 2 (.pure 3 (.pure 4 (.pure 5 (.pure 6 (.pure 7 (.pure 8 (.pure 10 (.pure 11 (.pure 12 (.read 9 (.read 13 (.pure 14 (.eff 15 (.pure 16 (.eff 17 .done)))))))))))))))))))]
def pl369 : List (Nat × Plan) := [(1, (.pure 0 (.pure 1 (.pure 2 (.pure 3 (.pure 4 (.pure 5 (.pure 6 (.pure 8 (.pure 9 (.pure 10 (.read 7 (.read 11 (.pure 12 (.eff 13 (.pure 14 (.eff 15 .done))))))))))))))))),
  (3, (.pure 0 (.pure 1 (.pure 2 (.pure 3 (.pure 4 (.pure 5 (.pure 6 (.pure 7 (.pure 9 (.pure 10 (.pure 11 (.read 8 (.read 12 (.eff 13 (.pure 14 (.pure 15 (.pure 16 .done)))))))))))))))))),
  (5, (.pure 0 (.pure 1 (.pure 2 (.pure 3 (.pure 4 (.pure 5 (.pure 6 (.pure 7 (.pure 9 (.pure 10 (.pure 11 (.read 8 (.read 12 (.eff 13 (.pure 14 (.pure 15 .done))))))))))))))))),
  (8, (.pure 0 (.pure 1 (.pure 2 (.pure 3 (.pure 4 (.pure 5 (.pure 6 (.pure 8 (.pure 9 (.pure 10 (.read 7 (.read 11 (.pure 12 (.eff 13 (.pure 14 (.eff 15 .done)))))))))))))))))]
def pl370 : List (Nat × Plan) := [(1, (.pure 0 (.pure 1 (.pure 2 (.pure 3 (.pure 4 (.pure 5 (.pure 6 (.pure 8 (.pure 9 (.pure 10 (.read 7 (.read 11 (.pure 12 (.eff 13 (.pure 14 (.eff 15 .done))))))))))))))))),
  (3, (.pure 0 (.pure 1 (.pure 2 (.pure 3 (.pure 4 (.pure 5 (.pure 6 (.pure 7 (.pure 9 (.pure 10 (.pure 11 (.read 8 (.read 12 (.eff 13 (.pure 14 (.pure 15 .done))))))))))))))))),
  (5, (.pure 0 (.pure 1 (.pure 2 (.pure 3 (.pure 4 (.pure 5 (.pure 6 (.pure 7 (.pure 9 (.pure 10 (.pure 11 (.read 8 (.read 12 (.eff 13 (.pure 14 (.pure 15 (.pure 16 .done)))))))))))))))))),
  (8, (.pure 0 (.pure 1 (.pure 2 (.pure 3 (.pure 4 (.pure 5 (.pure 6 (.pure 8 (.pure 9 (.pure 10 (.read 7 (.read 11 (.pure 12 (.eff 13 (.pure 14 (.eff 15 .done))))))))))))))))),
  (10, (.pure 0 (.pure 1 (.pure 2 (.pure 3 (.pure 4 (.pure 5 (.pure 6 (.pure 8 (.pure 9 (.pure 10 (.read 7 (.read 11 (.pure 12 (.eff 13 (.pure 14 (.eff 15 .done))))))))))))))))),
  (13, (.pure 0 (.pure 1 (.pure 2 (.pure 3 (.pure 4 (.pure 5 (.pure 6 (.pure 7 (.pure 9 (.pure 10 (.pure 11 (.read 8 (.read 12 (.eff 13 (.pure 14 (.pure 15 .done))))))))))))))))),
  (15, (.pure 0 (.pure 1 (.pure 2 (.pure 3 (.pure 4 (.pure 5 (.pure 6 (.pure 7 (.pure 9 (.pure 10 (.pure 11 (.read 8 (.read 12 (.eff 13 (.pure 14 (.pure 15 (.pure 16 .done)))))))))))))))))),
  (18, (.pure 0 (.pure 1 (.pure 2 (.pure 3 (.pure 4 (.pure 5 (.pure 6 (.pure 8 (.pure 9 (.pure 10 (.read 7 (.read 11 (.pure 12 (.eff 13 (.pure 14 (.eff 15 .done))))))))))))))))),
  (21, (.pure 0 (.pure 1 (.pure 2 (.pure 3 (.pure 4 (.pure 5 (.pure 6 (.pure 8 (.pure 9 (.pure 10 (.read 7 (.read 11 (.pure 12 (.eff 13 (.pure 14 (.eff 15 .done)))))))))))))))))]
def pl371 : List (Nat × Plan) := [(17, (.pure 0 (.pure 1 (.pure 2 (.pure 3 (.pure 4 (.pure 5 (.pure 6 (.pure 8 (.pure 9 (.pure 10 (.read 7 (.read 11 (.eff 12 (.pure 13 (.pure 14 .done))))))))))))))))]
def pl374 : List (Nat × Plan) := [(11, (.pure 0 (.pure 1 (.pure 2 (.pure 3 (.pure 4 (.pure 5 (.pure 6 (.pure 7 (.eff 8 .done)))))))))),
  (15, (.pure 0 (.pure 1 (.pure 2 (.pure 3 (.pure 4 (.pure 5 (.pure 6 (.pure 7 (.eff 8 .done))))))))))]
def pl375 : List (Nat × Plan) := [(5, (.pure 0 (.pure 1 (.pure 2 (.pure 3 (.pure 4 (.pure 5 (.pure 6 .done))))))))]
def pl376 : List (Nat × Plan) := [(4, (.pure 0 (.pure 1 (.pure 2 (.pure 3 (.pure 5 (.pure 6 (.pure 8 (.pure 11 (.pure 12 (.pure 13 (.pure 15 (.pure 16 (.read 4 (.pure 7 (.read 14 (.pure 17 (.eff 9 (.eff 10 (.eff 18 (.pure 19 (.pure 20 (.eff 21 .done)))))))))))))))))))))))]
def pl377 : List (Nat × Plan) := [(1, (.pure 0 (.pure 1 (.pure 2 (.pure 3 (.pure 5 (.pure 6 (.read 4 (.read 7 (.eff 8 (.eff 9 (.pure 10 (.pure 11 (.eff 12 .done))))))))))))))]
def pl378 : List (Nat × Plan) := [(3, (.pure 0 (.pure 1 (.pure 2 (.read 3 (.read 4 (.eff 5 (.pure 6 (.pure 7 (.eff 8 .done))))))))))]
def pl380 : List (Nat × Plan) := [(2, (.pure 0 (.pure 1 (.pure 2 (.read 3 (.read 4 (.pure 5 (.pure 6 (.eff 7 .done)))))))))]
def pl381 : List (Nat × Plan) := [(1, (.pure 0 (.pure 1 (.pure 2 (.pure 3 (.pure 5 (.pure 6 (.read 4 (.read 7 (.eff 8 (.pure 9 (.pure 10 (.eff 11 .done)))))))))))))]
def pl384 : List (Nat × Plan) := [(3, (.pure 0 (.pure 1 (.pure 2 (.pure 3 (.pure 4 (.pure 5 (.pure 6 (.pure 7 (.pure 8 (.pure 9 (.pure 10 (.pure 12 (.pure 13 (.pure 14 (.pure 15 (.pure 16 (.pure 17 (.read 11 (.read 18 (.eff 19 (.pure 20 (.pure 21 .done))))))))))))))))))))))),
  (5, (.pure 0 (.pure 1 (.pure 2 (.pure 3 (.pure 4 (.pure 5 (.pure 7 (.pure 8 (.pure 9 (.pure 10 (.pure 11 (.read 6 (.read 12 (.eff 13 (.pure 14 (.pure 15 .done))))))))))))))))),
  (6, (.pure 0 (.pure 1 (.pure 2 (.pure 3 (.pure 4 (.pure 5 (.pure 6 (.pure 7 (.pure 8 (.pure 9 (.pure 10 (.pure 11 (.pure 12 (.pure 14 (.pure 15 (.pure 16 (.pure 17 (.pure 18 (.read 13 (.read 19 (.pure 20 (.eff 21 (.pure 22 (.eff 23 .done)))))))))))))))))))))))))]
def pl386 : List (Nat × Plan) := [(1, (.pure 0 (.pure 1 (.pure 3 (.pure 4 (.read 2 (.read 5 (.pure 6 (.pure 7 (.pure 8 (.eff 9 .done))))))))))),
  (2, (.pure 0 (.pure 1 (.pure 3 (.pure 4 (.read 2 (.read 5 (.pure 6 (.pure 7 (.pure 8 (.eff 9 .done))))))))))),
  (3, (.pure 0 (.pure 1 (.pure 3 (.pure 4 (.read 2 (.read 5 (.pure 6 (.pure 7 (.pure 8 (.eff 9 .done)))))))))))]
def pl396 : List (Nat × Plan) := [(4, (.pure 0 (.pure 1 (.pure 2 (.pure 4 (.pure 5 (.pure 6 (.pure 7 (.read 3 (.read 8 (.pure 9 (.eff 10 .done))))))))))))]
def pl403 : List (Nat × Plan) := [(1, (.pure 0 (.pure 1 (.pure 2 (.pure 4 (.pure 7 (.pure 8 (.pure 9 (.pure 11 (.read 3 (.pure 5 (.read 6 (.read 10 (.pure 12 (.read 13 (.eff 14 (.pure 15 (.pure 16 .done))))))))))))))))))]
def pl410 : List (Nat × Plan) := [(3, (.pure 0 (.pure 1 (.pure 2 (.pure 3 (.pure 4 (.pure 5 (.pure 6 (.pure 7 (.pure 8 (.pure 9 (.pure 10 (.pure 12 (.pure 13 (.pure 14 (.pure 15 (.pure 16 (.pure 17 (.read 11 (.read 18 (.eff 19 (.pure 20 (.pure 21 .done))))))))))))))))))))))),
  (5, (.pure 0 (.pure 1 (.pure 2 (.pure 3 (.pure 4 (.pure 5 (.pure 7 (.pure 8 (.pure 9 (.pure 10 (.pure 11 (.read 6 (.read 12 (.eff 13 (.pure 14 (.pure 15 .done))))))))))))))))),
  (6, (.pure 0 (.pure 1 (.pure 2 (.pure 3 (.pure 4 (.pure 5 (.pure 6 (.pure 7 (.pure 8 (.pure 9 (.pure 10 (.pure 11 (.pure 12 (.pure 14 (.pure 15 (.pure 16 (.pure 17 (.pure 18 (.read 13 (.read 19 (.pure 20 (.eff 21 (.pure 22 (.eff 23 .done)))))))))))))))))))))))))]
def pl417 : List (Nat × Plan) := [(6, (.pure 0 (.pure 1 (.pure 2 (.pure 3 (.pure 4 (.pure 5 (.pure 6 (.pure 7 (.pure 8 (.pure 10 (.read 9 (.pure 11 (.read 12 (.pure 13 (.pure 14 (.read 15 (.eff 16 (.pure 17 (.pure 18 .done))))))))))))))))))))]
def pl418 : List (Nat × Plan) := [(4, (.pure 0 (.pure 1 (.pure 2 (.pure 3 (.pure 4 (.pure 5 (.pure 6 (.pure 8 (.pure 9 (.pure 10 (.pure 11 (.read 7 (.read 12 (.eff 13 (.pure 14 .done)))))))))))))))),
  (6, (.pure 0 (.pure 1 (.pure 2 (.pure 3 (.pure 4 (.pure 5 (.pure 6 (.pure 7 (.pure 8 (.pure 10 (.pure 11 (.pure 12 (.read 9 (.read 13 (.pure 14 (.eff 15 (.pure 16 (.eff 17 .done)))))))))))))))))))]
def pl419 : List (Nat × Plan) := [(10, (.pure 0 (.pure 1 (.pure 2 (.pure 3 (.pure 4 (.pure 5 (.pure 6 (.pure 7 (.pure 8 (.pure 9 (.pure 10 (.pure 12 (.pure 13 (.pure 14 (.read 11 (.read 15 (.pure 16 (.eff 17 (.pure 18 (.eff 19 .done)))))))))))))))))))))]
def pl420 : List (Nat × Plan) := [(10, (.pure 0 (.pure 1 (.pure 2 (.pure 3 (.pure 4 (.pure 5 (.pure 6 (.pure 7 (.pure 8 (.pure 9 (.pure 10 (.pure 12 (.pure 13 (.pure 14 (.read 11 (.read 15 (.pure 16 (.eff 17 (.pure 18 (.eff 19 .done)))))))))))))))))))))]
def pl422 : List (Nat × Plan) := [(3, (.pure 0 (.pure 1 (.pure 2 (.pure 3 (.pure 4 (.pure 5 (.pure 6 (.pure 8 (.pure 9 (.pure 10 (.read 7 (.read 11 (.pure 12 (.eff 13 (.pure 14 (.eff 15 .done)))))))))))))))))]
def pl423 : List (Nat × Plan) := [(5, (.pure 0 (.pure 1 (.pure 2 (.pure 3 (.pure 4 (.pure 5 (.pure 6 (.pure 8 (.pure 9 (.pure 10 (.pure 11 (.read 7 (.read 12 (.eff 13 (.pure 14 (.pure 15 .done))))))))))))))))),
  (11, (.pure 0 (.pure 1 (.pure 2 (.pure 3 (.pure 4 (.pure 5 (.pure 6 (.pure 7 (.pure 8 (.pure 10 (.pure 11 (.pure 12 (.read 9 (.read 13 (.pure 14 (.eff 15 (.pure 16 (.eff 17 .done))))))))))))))))))),
  (16, (.pure 0 (.pure 1 (.pure 2 (.pure 4 (.pure 5 (.pure 6 (.pure 7 (.read 3 (.read 8 (.eff 9 (.pure 10 .done)))))))))))),
  (17, (.pure 0 (.pure 1 (.pure 2 (.pure 3 (.pure 4 (.pure 5 (.pure 6 (.pure 7 (.pure 8 (.pure 10 (.pure 11 (.pure 12 (.read 9 (.read 13 (.pure 14 (.eff 15 (.pure 16 (.eff 17 .done))))))))))))))))))),
  (22, (.pure 0 (.pure 1 (.pure 2 (.pure 4 (.pure 5 (.pure 6 (.pure 7 (.read 3 (.read 8 (.eff 9 (.pure 10 .done)))))))))))),
  (23, (.pure 0 (.pure 1 (.pure 2 (.pure 3 (.pure 4 (.pure 5 (.pure 6 (.pure 7 (.pure 8 (.pure 10 (.pure 11 (.pure 12 (.read 9 (.read 13 (.pure 14 (.eff 15 (.pure 16 (.eff 17 .done)))))))))))))))))))]
def pl424 : List (Nat × Plan) := [(1, (.pure 0 (.pure 1 (.pure 2 (.pure 3 (.pure 4 (.pure 5 (.pure 6 (.pure 8 (.pure 9 (.pure 10 (.read 7 (.read 11 (.pure 12 (.eff 13 (.pure 14 (.eff 15 .done))))))))))))))))),
  (3, (.pure 0 (.pure 1 (.pure 2 (.pure 3 (.pure 4 (.pure 5 (.pure 6 (.pure 8 (.pure 9 (.pure 10 (.read 7 (.read 11 (.eff 12 (.pure 13 (.pure 14 .done)))))))))))))))),
  (5, (.pure 0 (.pure 1 (.pure 2 (.pure 3 (.pure 4 (.pure 5 (.pure 6 (.pure 8 (.pure 9 (.pure 10 (.read 7 (.read 11 (.eff 12 (.pure 13 .done))))))))))))))),
  (8, (.pure 0 (.pure 1 (.pure 2 (.pure 3 (.pure 4 (.pure 5 (.pure 6 (.pure 8 (.pure 9 (.pure 10 (.read 7 (.read 11 (.pure 12 (.eff 13 (.pure 14 (.eff 15 .done)))))))))))))))))]
def pl425 : List (Nat × Plan) := [(1, (.pure 0 (.pure 1 (.pure 2 (.pure 3 (.pure 4 (.pure 5 (.pure 6 (.pure 8 (.pure 9 (.pure 10 (.read 7 (.read 11 (.pure 12 (.eff 13 (.pure 14 (.eff 15 .done))))))))))))))))),
  (3, (.pure 0 (.pure 1 (.pure 2 (.pure 3 (.pure 4 (.pure 5 (.pure 6 (.pure 8 (.pure 9 (.pure 10 (.read 7 (.read 11 (.eff 12 (.pure 13 .done))))))))))))))),
  (5, (.pure 0 (.pure 1 (.pure 2 (.pure 3 (.pure 4 (.pure 5 (.pure 6 (.pure 8 (.pure 9 (.pure 10 (.read 7 (.read 11 (.eff 12 (.pure 13 (.pure 14 .done)))))))))))))))),
  (8, (.pure 0 (.pure 1 (.pure 2 (.pure 3 (.pure 4 (.pure 5 (.pure 6 (.pure 8 (.pure 9 (.pure 10 (.read 7 (.read 11 (.pure 12 (.eff 13 (.pure 14 (.eff 15 .done))))))))))))))))),
  (10, (.pure 0 (.pure 1 (.pure 2 (.pure 3 (.pure 4 (.pure 5 (.pure 6 (.pure 8 (.pure 9 (.pure 10 (.read 7 (.read 11 (.pure 12 (.eff 13 (.pure 14 (.eff 15 .done))))))))))))))))),
  (13, (.pure 0 (.pure 1 (.pure 2 (.pure 3 (.pure 4 (.pure 5 (.pure 6 (.pure 8 (.pure 9 (.pure 10 (.read 7 (.read 11 (.eff 12 (.pure 13 .done))))))))))))))),
  (15, (.pure 0 (.pure 1 (.pure 2 (.pure 3 (.pure 4 (.pure 5 (.pure 6 (.pure 8 (.pure 9 (.pure 10 (.read 7 (.read 11 (.eff 12 (.pure 13 (.pure 14 .done)))))))))))))))),
  (18, (.pure 0 (.pure 1 (.pure 2 (.pure 3 (.pure 4 (.pure 5 (.pure 6 (.pure 8 (.pure 9 (.pure 10 (.read 7 (.read 11 (.pure 12 (.eff 13 (.pure 14 (.eff 15 .done))))))))))))))))),
  (21, (.pure 0 (.pure 1 (.pure 2 (.pure 3 (.pure 4 (.pure 5 (.pure 6 (.pure 8 (.pure 9 (.pure 10 (.read 7 (.read 11 (.pure 12 (.eff 13 (.pure 14 (.eff 15 .done)))))))))))))))))]
def pl428 : List (Nat × Plan) := [(3, (.pure 0 (.pure 1 (.pure 2 (.pure 3 (.pure 4 (.pure 5 (.pure 6 (.pure 7 (.pure 8 (.pure 9 (.pure 10 (.pure 12 (.pure 13 (.pure 14 (.pure 15 (.pure 16 (.pure 17 (.read 11 (.read 18 (.eff 19 (.pure 20 (.pure 21 .done))))))))))))))))))))))),
  (5, (.pure 0 (.pure 1 (.pure 2 (.pure 3 (.pure 4 (.pure 5 (.pure 7 (.pure 8 (.pure 9 (.pure 10 (.pure 11 (.read 6 (.read 12 (.eff 13 (.pure 14 (.pure 15 .done))))))))))))))))),
  (6, (.pure 0 (.pure 1 (.pure 2 (.pure 3 (.pure 4 (.pure 5 (.pure 6 (.pure 7 (.pure 8 (.pure 9 (.pure 10 (.pure 11 (.pure 12 (.pure 14 (.pure 15 (.pure 16 (.pure 17 (.pure 18 (.read 13 (.read 19 (.pure 20 (.eff 21 (.pure 22 (.eff 23 .done)))))))))))))))))))))))))]
def pl431 : List (Nat × Plan) := [(4, (.pure 0 (.pure 1 (.pure 2 (.pure 3 (.pure 4 (.pure 5 (.pure 6 (.pure 8 (.pure 9 (.pure 10 (.pure 11 (.read 7 (.read 12 (.eff 13 (.pure 14 .done)))))))))))))))),
  (6, (.pure 0 (.pure 1 (.pure 2 (.pure 3 (.pure 4 (.pure 5 (.pure 6 (.pure 7 (.pure 8 (.pure 10 (.pure 11 (.pure 12 (.read 9 (.read 13 (.pure 14 (.eff 15 (.pure 16 (.eff 17 .done)))))))))))))))))))]
def pl432 : List (Nat × Plan) := [(10, (.pure 0 (.pure 1 (.pure 2 (.pure 3 (.pure 4 (.pure 5 (.pure 6 (.pure 7 (.pure 8 (.pure 9 (.pure 10 (.pure 12 (.pure 13 (.pure 14 (.read 11 (.read 15 (.pure 16 (.eff 17 (.pure 18 (.eff 19 .done)))))))))))))))))))))]
def pl433 : List (Nat × Plan) := [(10, (.pure 0 (.pure 1 (.pure 2 (.pure 3 (.pure 4 (.pure 5 (.pure 6 (.pure 7 (.pure 8 (.pure 9 (.pure 10 (.pure 12 (.pure 13 (.pure 14 (.read 11 (.read 15 (.pure 16 (.eff 17 (.pure 18 (.eff 19 .done)))))))))))))))))))))]
def pl435 : List (Nat × Plan) := [(3, (.pure 0 (.pure 1 (.pure 2 (.pure 3 (.pure 4 (.pure 5 (.pure 6 (.pure 8 (.pure 9 (.pure 10 (.read 7 (.read 11 (.pure 12 (.eff 13 (.pure 14 (.eff 15 .done)))))))))))))))))]
def pl436 : List (Nat × Plan) := [(5, (.pure 0 (.pure 1 (.pure 2 (.pure 3 (.pure 4 (.pure 5 (.pure 6 (.pure 8 (.pure 9 (.pure 10 (.pure 11 (.read 7 (.read 12 (.eff 13 (.pure 14 (.pure 15 .done))))))))))))))))),
  (11, (.pure 0 (.pure 1 (.pure 2 (.pure 3 (.pure 4 (.pure 5 (.pure 6 (.pure 7 (.pure 8 (.pure 10 (.pure 11 (.pure 12 (.read 9 (.read 13 (.pure 14 (.eff 15 (.pure 16 (.eff 17 .done))))))))))))))))))),
  (16, (.pure 0 (.pure 1 (.pure 2 (.pure 4 (.pure 5 (.pure 6 (.pure 7 (.read 3 (.read 8 (.eff 9 (.pure 10 .done)))))))))))),
  (17, (.pure 0 (.pure 1 (.pure 2 (.pure 3 (.pure 4 (.pure 5 (.pure 6 (.pure 7 (.pure 8 (.pure 10 (.pure 11 (.pure 12 (.read 9 (.read 13 (.pure 14 (.eff 15 (.pure 16 (.eff 17 .done))))))))))))))))))),
  (22, (.pure 0 (.pure 1 (.pure 2 (.pure 4 (.pure 5 (.pure 6 (.pure 7 (.read 3 (.read 8 (.eff 9 (.pure 10 .done)))))))))))),
  (23, (.pure 0 (.pure 1 (.pure 2 (.pure 3 (.pure 4 (.pure 5 (.pure 6 (.pure 7 (.pure 8 (.pure 10 (.pure 11 (.pure 12 (.read 9 (.read 13 (.pure 14 (.eff 15 (.pure 16 (.eff 17 .done)))))))))))))))))))]
def pl438 : List (Nat × Plan) := [(1, (.pure 0 (.pure 1 (.pure 2 (.pure 3 (.pure 4 (.pure 5 (.pure 6 (.pure 8 (.pure 9 (.pure 10 (.read 7 (.read 11 (.pure 12 (.eff 13 (.pure 14 (.eff 15 .done))))))))))))))))),
  (3, (.pure 0 (.pure 1 (.pure 2 (.pure 3 (.pure 4 (.pure 5 (.pure 6 (.pure 8 (.pure 9 (.pure 10 (.read 7 (.read 11 (.eff 12 (.pure 13 (.pure 14 .done)))))))))))))))),
  (5, (.pure 0 (.pure 1 (.pure 2 (.pure 3 (.pure 4 (.pure 5 (.pure 6 (.pure 8 (.pure 9 (.pure 10 (.read 7 (.read 11 (.eff 12 (.pure 13 .done))))))))))))))),
  (8, (.pure 0 (.pure 1 (.pure 2 (.pure 3 (.pure 4 (.pure 5 (.pure 6 (.pure 8 (.pure 9 (.pure 10 (.read 7 (.read 11 (.pure 12 (.eff 13 (.pure 14 (.eff 15 .done)))))))))))))))))]
def pl439 : List (Nat × Plan) := [(1, (.pure 0 (.pure 1 (.pure 2 (.pure 3 (.pure 4 (.pure 5 (.pure 6 (.pure 8 (.pure 9 (.pure 10 (.read 7 (.read 11 (.pure 12 (.eff 13 (.pure 14 (.eff 15 .done))))))))))))))))),
  (3, (.pure 0 (.pure 1 (.pure 2 (.pure 3 (.pure 4 (.pure 5 (.pure 6 (.pure 8 (.pure 9 (.pure 10 (.read 7 (.read 11 (.eff 12 (.pure 13 .done))))))))))))))),
  (5, (.pure 0 (.pure 1 (.pure 2 (.pure 3 (.pure 4 (.pure 5 (.pure 6 (.pure 8 (.pure 9 (.pure 10 (.read 7 (.read 11 (.eff 12 (.pure 13 (.pure 14 .done)))))))))))))))),
  (8, (.pure 0 (.pure 1 (.pure 2 (.pure 3 (.pure 4 (.pure 5 (.pure 6 (.pure 8 (.pure 9 (.pure 10 (.read 7 (.read 11 (.pure 12 (.eff 13 (.pure 14 (.eff 15 .done))))))))))))))))),
  (10, (.pure 0 (.pure 1 (.pure 2 (.pure 3 (.pure 4 (.pure 5 (.pure 6 (.pure 8 (.pure 9 (.pure 10 (.read 7 (.read 11 (.pure 12 (.eff 13 (.pure 14 (.eff 15 .done))))))))))))))))),
  (13, (.pure 0 (.pure 1 (.pure 2 (.pure 3 (.pure 4 (.pure 5 (.pure 6 (.pure 8 (.pure 9 (.pure 10 (.read 7 (.read 11 (.eff 12 (.pure 13 .done))))))))))))))),
  (15, (.pure 0 (.pure 1 (.pure 2 (.pure 3 (.pure 4 (.pure 5 (.pure 6 (.pure 8 (.pure 9 (.pure 10 (.read 7 (.read 11 (.eff 12 (.pure 13 (.pure 14 .done)))))))))))))))),
  (18, (.pure 0 (.pure 1 (.pure 2 (.pure 3 (.pure 4 (.pure 5 (.pure 6 (.pure 8 (.pure 9 (.pure 10 (.read 7 (.read 11 (.pure 12 (.eff 13 (.pure 14 (.eff 15 .done))))))))))))))))),
  (21, (.pure 0 (.pure 1 (.pure 2 (.pure 3 (.pure 4 (.pure 5 (.pure 6 (.pure 8 (.pure 9 (.pure 10 (.read 7 (.read 11 (.pure 12 (.eff 13 (.pure 14 (.eff 15 .done)))))))))))))))))]
def pl450 : List (Nat × Plan) := [(1, (.pure 0 (.pure 1 (.pure 2 (.pure 3 (.pure 5 (.pure 6 (.pure 7 (.read 4 (.read 8 (.eff 9 (.pure 10 .done))))))))))))]
def pl454 : List (Nat × Plan) := [(9, (.pure 0 (.pure 1 (.pure 2 (.pure 3 (.pure 4 (.pure 5 (.pure 6 (.eff 7 (.pure 8 (.pure 9 .done)))))))))))]
def pl457 : List (Nat × Plan) := [(3, (.pure 0 (.pure 1 (.pure 2 (.pure 3 (.pure 5 (.pure 6 (.pure 7 (.read 4 (.read 8 (.eff 9 .done)))))))))))]
def pl460 : List (Nat × Plan) := [(1, (.pure 0 (.pure 2 (.pure 5 (.pure 7 (.read 1 (.read 3 (.read 6 (.read 8 (.eff 4 (.eff 9 (.eff 10 (.eff 11 (.pure 12 .done))))))))))))))]
def pl461 : List (Nat × Plan) := [(1, (.pure 0 (.pure 1 (.pure 2 (.pure 3 (.pure 5 (.pure 6 (.pure 7 (.read 4 (.read 8 (.eff 9 (.pure 10 .done))))))))))))]
def pl463 : List (Nat × Plan) := [(3, (.pure 0 (.pure 1 (.pure 2 (.pure 3 (.pure 4 (.pure 5 (.pure 6 (.pure 7 (.pure 8 (.pure 9 (.pure 11 (.pure 12 (.pure 13 (.pure 14 (.pure 15 (.pure 16 (.read 10 (.read 17 (.eff 18 (.pure 19 .done))))))))))))))))))))),
  (5, (.pure 0 (.pure 1 (.pure 2 (.pure 3 (.pure 4 (.pure 6 (.pure 7 (.pure 8 (.pure 9 (.pure 10 (.read 5 (.read 11 (.eff 12 (.pure 13 .done))))))))))))))),
  (6, (.pure 0 (.pure 1 (.pure 2 (.pure 3 (.pure 4 (.pure 5 (.pure 6 (.pure 7 (.pure 8 (.pure 9 (.pure 10 (.pure 11 (.pure 12 (.pure 14 (.pure 15 (.pure 16 (.pure 17 (.pure 18 (.read 13 (.read 19 (.pure 20 (.eff 21 (.pure 22 (.eff 23 .done)))))))))))))))))))))))))]
def pl466 : List (Nat × Plan) := [(1, (.pure 0 (.pure 1 (.pure 2 (.pure 3 (.pure 5 (.pure 6 (.pure 7 (.read 4 (.read 8 (.eff 9 (.pure 10 .done))))))))))))]
def pl467 : List (Nat × Plan) := [(3, (.pure 0 (.pure 1 (.pure 2 (.pure 3 (.pure 4 (.pure 5 (.pure 6 (.pure 7 (.pure 8 (.pure 9 (.pure 11 (.pure 12 (.pure 13 (.pure 14 (.pure 15 (.pure 16 (.read 10 (.read 17 (.eff 18 (.pure 19 .done))))))))))))))))))))),
  (5, (.pure 0 (.pure 1 (.pure 2 (.pure 3 (.pure 4 (.pure 6 (.pure 7 (.pure 8 (.pure 9 (.pure 10 (.read 5 (.read 11 (.eff 12 (.pure 13 .done))))))))))))))),
  (6, (.pure 0 (.pure 1 (.pure 2 (.pure 3 (.pure 4 (.pure 5 (.pure 6 (.pure 7 (.pure 8 (.pure 9 (.pure 10 (.pure 11 (.pure 12 (.pure 14 (.pure 15 (.pure 16 (.pure 17 (.pure 18 (.read 13 (.read 19 (.pure 20 (.eff 21 (.pure 22 (.eff 23 .done)))))))))))))))))))))))))]
def pl478 : List (Nat × Plan) := [(7, (.pure 0 (.pure 1 (.pure 2 (.pure 3 (.pure 5 (.pure 6 (.pure 7 (.read 4 (.read 8 (.pure 9 (.pure 10 (.pure 11 (.eff 12 .done))))))))))))))]
def pl479 : List (Nat × Plan) := [(3, (.pure 0 (.pure 1 (.pure 2 (.pure 3 (.pure 4 (.pure 5 (.pure 6 (.pure 8 (.pure 9 (.pure 10 (.read 7 (.read 11 (.pure 12 (.eff 13 (.pure 14 (.eff 15 .done)))))))))))))))))]
def pl480 : List (Nat × Plan) := [(1, (.pure 0 (.pure 1 (.pure 2 (.pure 4 (.pure 5 (.pure 6 (.read 3 (.read 7 (.eff 8 .done))))))))))]
def pl481 : List (Nat × Plan) := [(1, (.pure 0 (.pure 1 (.pure 2 (.pure 4 (.pure 5 (.pure 6 (.read 3 (.read 7 (.eff 8 .done))))))))))]
def pl482 : List (Nat × Plan) := [(3, (.pure 0 (.pure 1 (.pure 2 (.pure 3 (.pure 4 (.pure 5 (.pure 6 (.pure 8 (.pure 9 (.pure 10 (.read 7 (.read 11 (.pure 12 (.eff 13 (.pure 14 (.eff 15 .done)))))))))))))))))]
def pl485 : List (Nat × Plan) := [(5, (.pure 0 (.pure 1 (.pure 2 (.pure 3 (.pure 4 (.pure 5 (.eff 6 (.pure 7 .done)))))))))]
def plTbl : Tr (List (Nat × Plan)) := (.n none (.n none (.n none (.n none (.n (some pl15) (.n (some pl31) (.n (some pl63) (.n none (.n (some pl255) .e .e) .e) (.n none (.n (some pl319) .e .e) .e)) (.n none (.n none (.n (some pl287) .e .e) .e) (.n none .e (.n (some pl479) .e .e)))) (.n none (.n none .e (.n none .e (.n (some pl463) .e .e))) (.n none (.n (some pl175) (.n (some pl303) .e .e) (.n (some pl431) .e .e)) (.n none (.n (some pl367) .e .e) .e)))) (.n none (.n none (.n (some pl71) (.n (some pl135) .e .e) .e) (.n none (.n (some pl167) .e (.n (some pl423) .e .e)) (.n (some pl231) .e .e))) (.n (some pl55) (.n none .e (.n (some pl215) (.n (some pl343) .e .e) .e)) (.n none (.n none (.n (some pl311) .e .e) (.n (some pl439) .e .e)) (.n none (.n (some pl375) .e .e) .e))))) (.n (some pl11) (.n none (.n none (.n (some pl67) (.n (some pl131) .e .e) (.n (some pl195) (.n (some pl323) .e .e) .e)) (.n (some pl99) (.n none .e (.n (some pl419) .e .e)) (.n (some pl227) .e .e))) (.n none (.n none (.n none .e (.n (some pl403) .e .e)) (.n (some pl211) (.n (some pl339) .e .e) (.n (some pl467) .e .e))) (.n none (.n none (.n (some pl307) .e .e) (.n (some pl435) .e .e)) (.n none (.n (some pl371) .e .e) .e)))) (.n (some pl27) (.n none (.n none (.n none (.n (some pl267) .e .e) .e) (.n none (.n (some pl331) .e .e) .e)) (.n none .e (.n (some pl235) (.n (some pl363) .e .e) .e))) (.n (some pl59) (.n none (.n none (.n (some pl283) .e .e) .e) (.n none (.n (some pl347) .e .e) .e)) .e)))) (.n none (.n (some pl9) (.n none (.n none (.n none (.n (some pl129) .e .e) (.n none (.n (some pl321) .e .e) .e)) (.n none (.n none (.n (some pl289) .e .e) (.n (some pl417) .e .e)) (.n (some pl225) .e (.n (some pl481) .e .e)))) (.n (some pl49) .e (.n none (.n none .e (.n (some pl433) .e .e)) (.n none (.n (some pl369) .e .e) .e)))) (.n none (.n none (.n (some pl73) .e (.n none .e (.n (some pl457) .e .e))) (.n none (.n none .e (.n (some pl425) .e .e)) .e)) (.n none (.n none .e (.n none (.n (some pl345) .e .e) .e)) (.n none (.n (some pl185) .e .e) (.n none (.n (some pl377) .e .e) .e))))) (.n (some pl13) (.n (some pl21) (.n none .e (.n none .e (.n none .e (.n (some pl485) .e .e)))) (.n (some pl53) .e .e)) (.n (some pl29) (.n none (.n none .e (.n none (.n (some pl333) .e .e) (.n (some pl461) .e .e))) (.n none .e (.n none (.n (some pl365) .e .e) .e))) (.n none (.n none (.n none (.n (some pl285) .e .e) .e) (.n none (.n (some pl349) .e .e) .e)) (.n none .e (.n (some pl253) (.n (some pl381) .e .e) .e))))))) (.n none (.n none (.n none (.n none (.n none (.n none (.n none .e (.n (some pl384) .e .e)) (.n (some pl192) .e .e)) (.n none (.n (some pl160) (.n (some pl288) .e .e) .e) (.n none (.n (some pl352) .e .e) (.n (some pl480) .e .e)))) (.n none (.n (some pl80) (.n (some pl144) .e .e) .e) (.n none (.n none .e (.n (some pl432) .e .e)) (.n (some pl240) (.n (some pl368) .e .e) .e)))) (.n none (.n none (.n (some pl72) .e .e) (.n (some pl104) (.n none (.n (some pl296) .e .e) (.n (some pl424) .e .e)) (.n none (.n (some pl360) .e .e) .e))) (.n (some pl56) (.n none (.n (some pl152) .e .e) (.n none (.n (some pl344) .e .e) .e)) (.n none .e (.n none (.n (some pl376) .e .e) .e))))) (.n none (.n none (.n none (.n (some pl68) (.n none (.n (some pl260) .e .e) .e) (.n (some pl196) .e .e)) (.n none (.n (some pl164) .e (.n (some pl420) .e .e)) .e)) (.n none (.n (some pl84) .e (.n none (.n (some pl340) .e .e) .e)) (.n none (.n none .e (.n (some pl436) .e .e)) (.n (some pl244) .e .e)))) (.n (some pl28) (.n none (.n none (.n (some pl140) .e (.n (some pl396) .e .e)) (.n (some pl204) .e (.n (some pl460) .e .e))) (.n none (.n none .e (.n (some pl428) .e .e)) (.n (some pl236) (.n (some pl364) .e .e) .e))) (.n none (.n none (.n none (.n (some pl284) .e .e) .e) .e) (.n (some pl124) .e (.n none (.n (some pl380) .e .e) .e)))))) (.n (some pl6) (.n (some pl10) (.n none (.n none (.n (some pl66) (.n (some pl130) .e (.n (some pl386) .e .e)) (.n none .e (.n (some pl450) .e .e))) (.n (some pl98) (.n none (.n (some pl290) .e .e) (.n (some pl418) .e .e)) (.n none .e (.n (some pl482) .e .e)))) (.n none (.n none (.n (some pl146) .e .e) (.n none (.n (some pl338) .e .e) (.n (some pl466) .e .e))) (.n none (.n none (.n (some pl306) .e .e) .e) (.n (some pl242) (.n (some pl370) .e .e) .e)))) (.n (some pl26) (.n none (.n (some pl74) .e (.n none (.n (some pl330) .e .e) .e)) (.n none (.n (some pl170) (.n (some pl298) .e .e) .e) .e)) (.n none (.n (some pl90) (.n none .e (.n (some pl410) .e .e)) .e) (.n none .e (.n none (.n (some pl378) .e .e) .e))))) (.n none (.n (some pl22) (.n none (.n none (.n (some pl134) (.n (some pl262) .e .e) .e) (.n (some pl198) (.n (some pl326) .e .e) (.n (some pl454) .e .e))) (.n none (.n (some pl166) .e (.n (some pl422) .e .e)) (.n (some pl230) .e .e))) (.n none (.n none (.n none (.n (some pl278) .e .e) .e) (.n none (.n (some pl342) .e .e) .e)) (.n none (.n none .e (.n (some pl438) .e .e)) (.n none (.n (some pl374) .e .e) .e)))) (.n none (.n none (.n none .e (.n (some pl206) .e .e)) (.n none (.n none (.n (some pl302) .e .e) .e) .e)) (.n none (.n none .e (.n none .e (.n (some pl478) .e .e))) (.n none .e (.n (some pl254) .e .e))))))))
theorem okf6 : okB Tryz.prog (plansIn plTbl) 6 = true := by decide +kernel
theorem okf9 : okB Tryz.prog (plansIn plTbl) 9 = true := by decide +kernel
theorem okf10 : okB Tryz.prog (plansIn plTbl) 10 = true := by decide +kernel
theorem okf11 : okB Tryz.prog (plansIn plTbl) 11 = true := by decide +kernel
theorem okf13 : okB Tryz.prog (plansIn plTbl) 13 = true := by decide +kernel
theorem okf15 : okB Tryz.prog (plansIn plTbl) 15 = true := by decide +kernel
theorem ok_q21_6_0 : partOk Tryz.prog 21 6 [] 1 [true, true, true, true, true, true, true, true, true, true, true, true, true, false] q21_6_0 = true := by decide +kernel
def F_q21_6_0 : PF := (1, [true, true, true, true, true, true, true, true, true, true, true, true, true, false], q21_6_0) :: []
theorem all_q21_6_0 : AllOk Tryz.prog 21 6 F_q21_6_0 := allOk_cons allOk_nil ok_q21_6_0
theorem ok_q21_6_1 : partOk Tryz.prog 21 6 F_q21_6_0 2 [true, true, true, true, true, true, true, true, true, true, true, true, false, false] q21_6_1 = true := by decide +kernel
def F_q21_6_1 : PF := (2, [true, true, true, true, true, true, true, true, true, true, true, true, false, false], q21_6_1) :: F_q21_6_0
theorem all_q21_6_1 : AllOk Tryz.prog 21 6 F_q21_6_1 := allOk_cons all_q21_6_0 ok_q21_6_1
theorem ok_q21_6_2 : partOk Tryz.prog 21 6 F_q21_6_1 3 [true, true, true, true, true, true, true, true, true, true, true, false, false, false] q21_6_2 = true := by decide +kernel
def F_q21_6_2 : PF := (3, [true, true, true, true, true, true, true, true, true, true, true, false, false, false], q21_6_2) :: F_q21_6_1
theorem all_q21_6_2 : AllOk Tryz.prog 21 6 F_q21_6_2 := allOk_cons all_q21_6_1 ok_q21_6_2
theorem ok_q21_6_3 : partOk Tryz.prog 21 6 F_q21_6_2 3 [true, true, true, true, true, true, true, true, true, true, false, true, false, false] q21_6_3 = true := by decide +kernel
def F_q21_6_3 : PF := (3, [true, true, true, true, true, true, true, true, true, true, false, true, false, false], q21_6_3) :: F_q21_6_2
theorem all_q21_6_3 : AllOk Tryz.prog 21 6 F_q21_6_3 := allOk_cons all_q21_6_2 ok_q21_6_3
theorem ok_q21_6_4 : partOk Tryz.prog 21 6 F_q21_6_3 2 [true, true, true, true, true, true, true, true, true, false, true, true, true, false] q21_6_4 = true := by decide +kernel
def F_q21_6_4 : PF := (2, [true, true, true, true, true, true, true, true, true, false, true, true, true, false], q21_6_4) :: F_q21_6_3
theorem all_q21_6_4 : AllOk Tryz.prog 21 6 F_q21_6_4 := allOk_cons all_q21_6_3 ok_q21_6_4
theorem ok_q21_6_5 : partOk Tryz.prog 21 6 F_q21_6_4 3 [true, true, true, true, true, true, true, true, true, false, true, true, false, false] q21_6_5 = true := by decide +kernel
def F_q21_6_5 : PF := (3, [true, true, true, true, true, true, true, true, true, false, true, true, false, false], q21_6_5) :: F_q21_6_4
theorem all_q21_6_5 : AllOk Tryz.prog 21 6 F_q21_6_5 := allOk_cons all_q21_6_4 ok_q21_6_5
theorem ok_q21_6_6 : partOk Tryz.prog 21 6 F_q21_6_5 4 [true, true, true, true, true, true, true, true, true, false, true, false, false, false] q21_6_6 = true := by decide +kernel
def F_q21_6_6 : PF := (4, [true, true, true, true, true, true, true, true, true, false, true, false, false, false], q21_6_6) :: F_q21_6_5
theorem all_q21_6_6 : AllOk Tryz.prog 21 6 F_q21_6_6 := allOk_cons all_q21_6_5 ok_q21_6_6
theorem ok_q21_6_7 : partOk Tryz.prog 21 6 F_q21_6_6 4 [true, true, true, true, true, true, true, true, true, false, false, true, false, false] q21_6_7 = true := by decide +kernel
def F_q21_6_7 : PF := (4, [true, true, true, true, true, true, true, true, true, false, false, true, false, false], q21_6_7) :: F_q21_6_6
theorem all_q21_6_7 : AllOk Tryz.prog 21 6 F_q21_6_7 := allOk_cons all_q21_6_6 ok_q21_6_7
theorem ok_q21_6_8 : partOk Tryz.prog 21 6 F_q21_6_7 5 [true, true, true, true, true, true, false, true, false, false, true, true, false, false] q21_6_8 = true := by decide +kernel
def F_q21_6_8 : PF := (5, [true, true, true, true, true, true, false, true, false, false, true, true, false, false], q21_6_8) :: F_q21_6_7
theorem all_q21_6_8 : AllOk Tryz.prog 21 6 F_q21_6_8 := allOk_cons all_q21_6_7 ok_q21_6_8
def pw21_6 : Plan := (.pure 0 (.pure 2 (.pure 5 (.pure 7 (.read 1 (.pure 3 (.read 4 (.alt (.eff 6 (.pure 8 (.alt (.eff 9 (.alt (.eff 10 q21_6_2) (.eff 11 q21_6_3))) (.alt (.eff 10 q21_6_6) (.eff 11 q21_6_7))))) (.alt (.eff 10 (.alt (.eff 6 (.pure 8 q21_6_6)) (.eff 11 q21_6_8))) (.eff 11 (.alt (.eff 6 (.pure 8 q21_6_7)) (.eff 10 q21_6_8))))))))))))
theorem okw21_6 : wholeOk Tryz.prog 21 6 F_q21_6_8 pw21_6 = true := by decide +kernel
theorem okf21 : okB Tryz.prog (plansIn plTbl) 21 = true := by
  refine okB_of (skip := [6]) (by decide +kernel) ?_
  intro id hid ops ho
  simp only [List.mem_cons, List.not_mem_nil, or_false] at hid
  rcases hid with rfl
  · exact ⟨pw21_6, rfl, whole_ok all_q21_6_8 okw21_6 ops ho⟩
theorem ok_q22_3_0 : partOk Tryz.prog 22 3 [] 1 [true, true, true, true, true, true, true, true, true, true, true, true, true, true, true, true, true, true, true, true, true, true, true, true, true, true, true, true, true, true, true, true, true, true, true, true, true, true, true, true, true, true, true, true, true, false] q22_3_0 = true := by decide +kernel
def F_q22_3_0 : PF := (1, [true, true, true, true, true, true, true, true, true, true, true, true, true, true, true, true, true, true, true, true, true, true, true, true, true, true, true, true, true, true, true, true, true, true, true, true, true, true, true, true, true, true, true, true, true, false], q22_3_0) :: []
theorem all_q22_3_0 : AllOk Tryz.prog 22 3 F_q22_3_0 := allOk_cons allOk_nil ok_q22_3_0
theorem ok_q22_3_1 : partOk Tryz.prog 22 3 F_q22_3_0 3 [true, true, true, true, true, true, true, true, true, true, true, true, true, true, true, true, true, true, true, true, true, true, true, true, true, true, true, true, true, true, true, true, true, true, true, true, true, true, true, true, true, true, false, false, true, false] q22_3_1 = true := by decide +kernel
def F_q22_3_1 : PF := (3, [true, true, true, true, true, true, true, true, true, true, true, true, true, true, true, true, true, true, true, true, true, true, true, true, true, true, true, true, true, true, true, true, true, true, true, true, true, true, true, true, true, true, false, false, true, false], q22_3_1) :: F_q22_3_0
theorem all_q22_3_1 : AllOk Tryz.prog 22 3 F_q22_3_1 := allOk_cons all_q22_3_0 ok_q22_3_1
theorem ok_q22_3_2 : partOk Tryz.prog 22 3 F_q22_3_1 4 [true, true, true, true, true, true, true, true, true, true, true, true, true, true, true, true, true, true, true, true, true, true, true, true, true, true, true, true, true, true, true, true, true, true, true, true, true, false, true, true, true, true, false, false, true, false] q22_3_2 = true := by decide +kernel
def F_q22_3_2 : PF := (4, [true, true, true, true, true, true, true, true, true, true, true, true, true, true, true, true, true, true, true, true, true, true, true, true, true, true, true, true, true, true, true, true, true, true, true, true, true, false, true, true, true, true, false, false, true, false], q22_3_2) :: F_q22_3_1
theorem all_q22_3_2 : AllOk Tryz.prog 22 3 F_q22_3_2 := allOk_cons all_q22_3_1 ok_q22_3_2
theorem ok_q22_3_3 : partOk Tryz.prog 22 3 F_q22_3_2 5 [true, true, true, true, true, true, true, true, true, true, true, true, true, true, true, true, true, true, true, true, true, true, true, true, true, true, true, true, true, true, true, true, false, true, true, true, true, false, true, true, true, true, false, false, true, false] q22_3_3 = true := by decide +kernel
def F_q22_3_3 : PF := (5, [true, true, true, true, true, true, true, true, true, true, true, true, true, true, true, true, true, true, true, true, true, true, true, true, true, true, true, true, true, true, true, true, false, true, true, true, true, false, true, true, true, true, false, false, true, false], q22_3_3) :: F_q22_3_2
theorem all_q22_3_3 : AllOk Tryz.prog 22 3 F_q22_3_3 := allOk_cons all_q22_3_2 ok_q22_3_3
theorem ok_q22_3_4 : partOk Tryz.prog 22 3 F_q22_3_3 6 [true, true, true, true, true, true, true, true, true, true, true, true, true, true, true, true, true, true, true, true, true, true, true, true, true, true, true, false, true, true, true, true, false, true, true, true, true, false, true, true, true, true, false, false, true, false] q22_3_4 = true := by decide +kernel
def F_q22_3_4 : PF := (6, [true, true, true, true, true, true, true, true, true, true, true, true, true, true, true, true, true, true, true, true, true, true, true, true, true, true, true, false, true, true, true, true, false, true, true, true, true, false, true, true, true, true, false, false, true, false], q22_3_4) :: F_q22_3_3
theorem all_q22_3_4 : AllOk Tryz.prog 22 3 F_q22_3_4 := allOk_cons all_q22_3_3 ok_q22_3_4
theorem ok_q22_3_5 : partOk Tryz.prog 22 3 F_q22_3_4 7 [true, true, true, true, true, true, true, true, true, true, true, true, true, true, true, true, true, true, true, true, true, true, true, true, true, true, false, false, true, true, true, true, false, true, true, true, true, false, true, true, true, true, false, false, true, false] q22_3_5 = true := by decide +kernel
def F_q22_3_5 : PF := (7, [true, true, true, true, true, true, true, true, true, true, true, true, true, true, true, true, true, true, true, true, true, true, true, true, true, true, false, false, true, true, true, true, false, true, true, true, true, false, true, true, true, true, false, false, true, false], q22_3_5) :: F_q22_3_4
theorem all_q22_3_5 : AllOk Tryz.prog 22 3 F_q22_3_5 := allOk_cons all_q22_3_4 ok_q22_3_5
theorem ok_q22_3_6 : partOk Tryz.prog 22 3 F_q22_3_5 8 [true, true, true, true, true, true, true, true, true, true, true, true, true, true, true, true, true, true, true, true, true, false, true, true, true, true, false, false, true, true, true, true, false, true, true, true, true, false, true, true, true, true, false, false, true, false] q22_3_6 = true := by decide +kernel
def F_q22_3_6 : PF := (8, [true, true, true, true, true, true, true, true, true, true, true, true, true, true, true, true, true, true, true, true, true, false, true, true, true, true, false, false, true, true, true, true, false, true, true, true, true, false, true, true, true, true, false, false, true, false], q22_3_6) :: F_q22_3_5
theorem all_q22_3_6 : AllOk Tryz.prog 22 3 F_q22_3_6 := allOk_cons all_q22_3_5 ok_q22_3_6
def pw22_3 : Plan := (.pure 0 (.pure 1 (.pure 2 (.pure 4 (.pure 5 (.pure 6 (.pure 8 (.pure 9 (.pure 10 (.pure 12 (.pure 13 (.pure 14 (.pure 17 (.pure 18 (.pure 19 (.pure 22 (.pure 23 (.pure 24 (.pure 28 (.pure 29 (.pure 30 (.pure 33 (.pure 34 (.pure 35 (.pure 38 (.pure 39 (.pure 40 (.pure 41 (.read 3 (.read 7 (.read 11 (.read 15 (.read 20 (.read 25 (.read 31 (.read 36 (.alt (.eff 16 (.alt (.eff 21 (.alt (.eff 26 (.alt (.eff 27 (.alt (.eff 32 (.alt (.eff 37 (.alt (.eff 42 (.pure 43 (.eff 44 q22_3_0))) (.eff 44 q22_3_1))) (.eff 44 q22_3_2))) (.eff 44 q22_3_3))) (.eff 44 q22_3_4))) (.eff 44 q22_3_5))) (.eff 44 q22_3_6))) (.eff 44 (.eff 16 q22_3_6)))))))))))))))))))))))))))))))))))))))
theorem okw22_3 : wholeOk Tryz.prog 22 3 F_q22_3_6 pw22_3 = true := by decide +kernel
theorem okf22 : okB Tryz.prog (plansIn plTbl) 22 = true := by
  refine okB_of (skip := [3]) (by decide +kernel) ?_
  intro id hid ops ho
  simp only [List.mem_cons, List.not_mem_nil, or_false] at hid
  rcases hid with rfl
  · exact ⟨pw22_3, rfl, whole_ok all_q22_3_6 okw22_3 ops ho⟩
theorem okf26 : okB Tryz.prog (plansIn plTbl) 26 = true := by decide +kernel
theorem okf27 : okB Tryz.prog (plansIn plTbl) 27 = true := by decide +kernel
theorem okf28 : okB Tryz.prog (plansIn plTbl) 28 = true := by decide +kernel
theorem okf29 : okB Tryz.prog (plansIn plTbl) 29 = true := by decide +kernel
theorem okf31 : okB Tryz.prog (plansIn plTbl) 31 = true := by decide +kernel
theorem okf49 : okB Tryz.prog (plansIn plTbl) 49 = true := by decide +kernel
theorem okf53 : okB Tryz.prog (plansIn plTbl) 53 = true := by decide +kernel
theorem okf55 : okB Tryz.prog (plansIn plTbl) 55 = true := by decide +kernel
theorem okf56 : okB Tryz.prog (plansIn plTbl) 56 = true := by decide +kernel
theorem okf59 : okB Tryz.prog (plansIn plTbl) 59 = true := by decide +kernel
theorem okf63 : okB Tryz.prog (plansIn plTbl) 63 = true := by decide +kernel
theorem okf66 : okB Tryz.prog (plansIn plTbl) 66 = true := by decide +kernel
theorem okf67 : okB Tryz.prog (plansIn plTbl) 67 = true := by decide +kernel
theorem okf68 : okB Tryz.prog (plansIn plTbl) 68 = true := by decide +kernel
theorem okf71 : okB Tryz.prog (plansIn plTbl) 71 = true := by decide +kernel
theorem okf72 : okB Tryz.prog (plansIn plTbl) 72 = true := by decide +kernel
theorem okf73 : okB Tryz.prog (plansIn plTbl) 73 = true := by decide +kernel
theorem okf74 : okB Tryz.prog (plansIn plTbl) 74 = true := by decide +kernel
theorem okf80 : okB Tryz.prog (plansIn plTbl) 80 = true := by decide +kernel
theorem okf84 : okB Tryz.prog (plansIn plTbl) 84 = true := by decide +kernel
theorem okf90 : okB Tryz.prog (plansIn plTbl) 90 = true := by decide +kernel
theorem okf98 : okB Tryz.prog (plansIn plTbl) 98 = true := by decide +kernel
theorem okf99 : okB Tryz.prog (plansIn plTbl) 99 = true := by decide +kernel
theorem okf104 : okB Tryz.prog (plansIn plTbl) 104 = true := by decide +kernel
theorem okf124 : okB Tryz.prog (plansIn plTbl) 124 = true := by decide +kernel
theorem okf129 : okB Tryz.prog (plansIn plTbl) 129 = true := by decide +kernel
theorem okf130 : okB Tryz.prog (plansIn plTbl) 130 = true := by decide +kernel
theorem okf131 : okB Tryz.prog (plansIn plTbl) 131 = true := by decide +kernel
theorem okf134 : okB Tryz.prog (plansIn plTbl) 134 = true := by decide +kernel
theorem okf135 : okB Tryz.prog (plansIn plTbl) 135 = true := by decide +kernel
theorem okf140 : okB Tryz.prog (plansIn plTbl) 140 = true := by decide +kernel
theorem okf144 : okB Tryz.prog (plansIn plTbl) 144 = true := by decide +kernel
theorem okf146 : okB Tryz.prog (plansIn plTbl) 146 = true := by decide +kernel
theorem okf152 : okB Tryz.prog (plansIn plTbl) 152 = true := by decide +kernel
theorem okf160 : okB Tryz.prog (plansIn plTbl) 160 = true := by decide +kernel
theorem okf164 : okB Tryz.prog (plansIn plTbl) 164 = true := by decide +kernel
theorem okf166 : okB Tryz.prog (plansIn plTbl) 166 = true := by decide +kernel
theorem okf167 : okB Tryz.prog (plansIn plTbl) 167 = true := by decide +kernel
theorem okf170 : okB Tryz.prog (plansIn plTbl) 170 = true := by decide +kernel
theorem okf175 : okB Tryz.prog (plansIn plTbl) 175 = true := by decide +kernel
theorem okf185 : okB Tryz.prog (plansIn plTbl) 185 = true := by decide +kernel
theorem okf192 : okB Tryz.prog (plansIn plTbl) 192 = true := by decide +kernel
theorem okf195 : okB Tryz.prog (plansIn plTbl) 195 = true := by decide +kernel
theorem okf196 : okB Tryz.prog (plansIn plTbl) 196 = true := by decide +kernel
theorem okf198 : okB Tryz.prog (plansIn plTbl) 198 = true := by decide +kernel
theorem ok_q204_22_0 : partOk Tryz.prog 204 22 [] 2 [true, true, true, true, true, true, true, true, true, true, true, true, true, true, true, true, true, false, false] q204_22_0 = true := by decide +kernel
def F_q204_22_0 : PF := (2, [true, true, true, true, true, true, true, true, true, true, true, true, true, true, true, true, true, false, false], q204_22_0) :: []
theorem all_q204_22_0 : AllOk Tryz.prog 204 22 F_q204_22_0 := allOk_cons allOk_nil ok_q204_22_0
theorem ok_q204_22_1 : partOk Tryz.prog 204 22 F_q204_22_0 3 [true, true, true, true, true, true, true, true, true, true, true, true, true, true, true, true, false, false, false] q204_22_1 = true := by decide +kernel
def F_q204_22_1 : PF := (3, [true, true, true, true, true, true, true, true, true, true, true, true, true, true, true, true, false, false, false], q204_22_1) :: F_q204_22_0
theorem all_q204_22_1 : AllOk Tryz.prog 204 22 F_q204_22_1 := allOk_cons all_q204_22_0 ok_q204_22_1
theorem ok_q204_22_2 : partOk Tryz.prog 204 22 F_q204_22_1 3 [true, true, true, true, true, true, true, true, true, true, true, true, true, true, false, true, true, false, false] q204_22_2 = true := by decide +kernel
def F_q204_22_2 : PF := (3, [true, true, true, true, true, true, true, true, true, true, true, true, true, true, false, true, true, false, false], q204_22_2) :: F_q204_22_1
theorem all_q204_22_2 : AllOk Tryz.prog 204 22 F_q204_22_2 := allOk_cons all_q204_22_1 ok_q204_22_2
theorem ok_q204_22_3 : partOk Tryz.prog 204 22 F_q204_22_2 4 [true, true, true, true, true, true, true, true, true, true, true, true, true, true, false, true, false, false, false] q204_22_3 = true := by decide +kernel
def F_q204_22_3 : PF := (4, [true, true, true, true, true, true, true, true, true, true, true, true, true, true, false, true, false, false, false], q204_22_3) :: F_q204_22_2
theorem all_q204_22_3 : AllOk Tryz.prog 204 22 F_q204_22_3 := allOk_cons all_q204_22_2 ok_q204_22_3
theorem ok_q204_22_4 : partOk Tryz.prog 204 22 F_q204_22_3 5 [true, true, true, true, true, true, true, true, true, true, true, true, true, false, true, false, false, false, false] q204_22_4 = true := by decide +kernel
def F_q204_22_4 : PF := (5, [true, true, true, true, true, true, true, true, true, true, true, true, true, false, true, false, false, false, false], q204_22_4) :: F_q204_22_3
theorem all_q204_22_4 : AllOk Tryz.prog 204 22 F_q204_22_4 := allOk_cons all_q204_22_3 ok_q204_22_4
theorem ok_q204_22_5 : partOk Tryz.prog 204 22 F_q204_22_4 4 [true, true, true, true, true, true, true, true, true, true, true, false, true, true, true, true, false, false, false] q204_22_5 = true := by decide +kernel
def F_q204_22_5 : PF := (4, [true, true, true, true, true, true, true, true, true, true, true, false, true, true, true, true, false, false, false], q204_22_5) :: F_q204_22_4
theorem all_q204_22_5 : AllOk Tryz.prog 204 22 F_q204_22_5 := allOk_cons all_q204_22_4 ok_q204_22_5
def pw204_22 : Plan := (.pure 0 (.pure 1 (.pure 2 (.pure 4 (.pure 6 (.pure 7 (.pure 8 (.pure 10 (.read 3 (.read 5 (.read 9 (.read 12 (.alt (.eff 11 (.alt (.eff 13 (.pure 15 q204_22_3)) (.eff 14 q204_22_4))) (.alt (.eff 13 (.pure 15 (.alt (.eff 11 q204_22_3) (.alt (.eff 14 q204_22_5) (.eff 16 (.read 11 q204_22_2)))))) (.eff 14 (.alt (.eff 11 q204_22_4) (.eff 13 (.pure 15 q204_22_5))))))))))))))))))
theorem okw204_22 : wholeOk Tryz.prog 204 22 F_q204_22_5 pw204_22 = true := by decide +kernel
theorem okf204 : okB Tryz.prog (plansIn plTbl) 204 = true := by
  refine okB_of (skip := [22]) (by decide +kernel) ?_
  intro id hid ops ho
  simp only [List.mem_cons, List.not_mem_nil, or_false] at hid
  rcases hid with rfl
  · exact ⟨pw204_22, rfl, whole_ok all_q204_22_5 okw204_22 ops ho⟩
theorem okf206 : okB Tryz.prog (plansIn plTbl) 206 = true := by decide +kernel
theorem okf211 : okB Tryz.prog (plansIn plTbl) 211 = true := by decide +kernel
theorem okf215 : okB Tryz.prog (plansIn plTbl) 215 = true := by decide +kernel
theorem okf225 : okB Tryz.prog (plansIn plTbl) 225 = true := by decide +kernel
theorem okf227 : okB Tryz.prog (plansIn plTbl) 227 = true := by decide +kernel
theorem okf230 : okB Tryz.prog (plansIn plTbl) 230 = true := by decide +kernel
theorem okf231 : okB Tryz.prog (plansIn plTbl) 231 = true := by decide +kernel
theorem okf235 : okB Tryz.prog (plansIn plTbl) 235 = true := by decide +kernel
theorem okf236 : okB Tryz.prog (plansIn plTbl) 236 = true := by decide +kernel
theorem okf240 : okB Tryz.prog (plansIn plTbl) 240 = true := by decide +kernel
theorem okf242 : okB Tryz.prog (plansIn plTbl) 242 = true := by decide +kernel
theorem okf244 : okB Tryz.prog (plansIn plTbl) 244 = true := by decide +kernel
theorem okf253 : okB Tryz.prog (plansIn plTbl) 253 = true := by decide +kernel
theorem okf254 : okB Tryz.prog (plansIn plTbl) 254 = true := by decide +kernel
theorem okf255 : okB Tryz.prog (plansIn plTbl) 255 = true := by decide +kernel
theorem okf260 : okB Tryz.prog (plansIn plTbl) 260 = true := by decide +kernel
theorem okf262 : okB Tryz.prog (plansIn plTbl) 262 = true := by decide +kernel
theorem okf267 : okB Tryz.prog (plansIn plTbl) 267 = true := by decide +kernel
theorem okf278 : okB Tryz.prog (plansIn plTbl) 278 = true := by decide +kernel
theorem okf283 : okB Tryz.prog (plansIn plTbl) 283 = true := by decide +kernel
theorem okf284 : okB Tryz.prog (plansIn plTbl) 284 = true := by decide +kernel
theorem okf285 : okB Tryz.prog (plansIn plTbl) 285 = true := by decide +kernel
theorem okf287 : okB Tryz.prog (plansIn plTbl) 287 = true := by decide +kernel
theorem okf288 : okB Tryz.prog (plansIn plTbl) 288 = true := by decide +kernel
theorem okf289 : okB Tryz.prog (plansIn plTbl) 289 = true := by decide +kernel
theorem okf290 : okB Tryz.prog (plansIn plTbl) 290 = true := by decide +kernel
theorem okf296 : okB Tryz.prog (plansIn plTbl) 296 = true := by decide +kernel
theorem okf298 : okB Tryz.prog (plansIn plTbl) 298 = true := by decide +kernel
theorem okf302 : okB Tryz.prog (plansIn plTbl) 302 = true := by decide +kernel
theorem okf303 : okB Tryz.prog (plansIn plTbl) 303 = true := by decide +kernel
theorem okf306 : okB Tryz.prog (plansIn plTbl) 306 = true := by decide +kernel
theorem okf307 : okB Tryz.prog (plansIn plTbl) 307 = true := by decide +kernel
theorem okf311 : okB Tryz.prog (plansIn plTbl) 311 = true := by decide +kernel
theorem okf319 : okB Tryz.prog (plansIn plTbl) 319 = true := by decide +kernel
theorem okf321 : okB Tryz.prog (plansIn plTbl) 321 = true := by decide +kernel
theorem okf323 : okB Tryz.prog (plansIn plTbl) 323 = true := by decide +kernel
theorem okf326 : okB Tryz.prog (plansIn plTbl) 326 = true := by decide +kernel
theorem okf330 : okB Tryz.prog (plansIn plTbl) 330 = true := by decide +kernel
theorem okf331 : okB Tryz.prog (plansIn plTbl) 331 = true := by decide +kernel
theorem okf333 : okB Tryz.prog (plansIn plTbl) 333 = true := by decide +kernel
theorem okf338 : okB Tryz.prog (plansIn plTbl) 338 = true := by decide +kernel
theorem okf339 : okB Tryz.prog (plansIn plTbl) 339 = true := by decide +kernel
theorem okf340 : okB Tryz.prog (plansIn plTbl) 340 = true := by decide +kernel
theorem okf342 : okB Tryz.prog (plansIn plTbl) 342 = true := by decide +kernel
theorem okf343 : okB Tryz.prog (plansIn plTbl) 343 = true := by decide +kernel
theorem okf344 : okB Tryz.prog (plansIn plTbl) 344 = true := by decide +kernel
theorem okf345 : okB Tryz.prog (plansIn plTbl) 345 = true := by decide +kernel
theorem okf347 : okB Tryz.prog (plansIn plTbl) 347 = true := by decide +kernel
theorem okf349 : okB Tryz.prog (plansIn plTbl) 349 = true := by decide +kernel
theorem okf352 : okB Tryz.prog (plansIn plTbl) 352 = true := by decide +kernel
theorem okf360 : okB Tryz.prog (plansIn plTbl) 360 = true := by decide +kernel
theorem okf363 : okB Tryz.prog (plansIn plTbl) 363 = true := by decide +kernel
theorem okf364 : okB Tryz.prog (plansIn plTbl) 364 = true := by decide +kernel
theorem okf365 : okB Tryz.prog (plansIn plTbl) 365 = true := by decide +kernel
theorem okf367 : okB Tryz.prog (plansIn plTbl) 367 = true := by decide +kernel
theorem okf368 : okB Tryz.prog (plansIn plTbl) 368 = true := by decide +kernel
theorem okf369 : okB Tryz.prog (plansIn plTbl) 369 = true := by decide +kernel
theorem okf370 : okB Tryz.prog (plansIn plTbl) 370 = true := by decide +kernel
theorem okf371 : okB Tryz.prog (plansIn plTbl) 371 = true := by decide +kernel
theorem okf374 : okB Tryz.prog (plansIn plTbl) 374 = true := by decide +kernel
theorem okf375 : okB Tryz.prog (plansIn plTbl) 375 = true := by decide +kernel
theorem okf376 : okB Tryz.prog (plansIn plTbl) 376 = true := by decide +kernel
theorem okf377 : okB Tryz.prog (plansIn plTbl) 377 = true := by decide +kernel
theorem okf378 : okB Tryz.prog (plansIn plTbl) 378 = true := by decide +kernel
theorem okf380 : okB Tryz.prog (plansIn plTbl) 380 = true := by decide +kernel
theorem okf381 : okB Tryz.prog (plansIn plTbl) 381 = true := by decide +kernel
theorem okf384 : okB Tryz.prog (plansIn plTbl) 384 = true := by decide +kernel
theorem okf386 : okB Tryz.prog (plansIn plTbl) 386 = true := by decide +kernel
theorem okf396 : okB Tryz.prog (plansIn plTbl) 396 = true := by decide +kernel
theorem okf403 : okB Tryz.prog (plansIn plTbl) 403 = true := by decide +kernel
theorem okf410 : okB Tryz.prog (plansIn plTbl) 410 = true := by decide +kernel
theorem okf417 : okB Tryz.prog (plansIn plTbl) 417 = true := by decide +kernel
theorem okf418 : okB Tryz.prog (plansIn plTbl) 418 = true := by decide +kernel
theorem okf419 : okB Tryz.prog (plansIn plTbl) 419 = true := by decide +kernel
theorem okf420 : okB Tryz.prog (plansIn plTbl) 420 = true := by decide +kernel
theorem okf422 : okB Tryz.prog (plansIn plTbl) 422 = true := by decide +kernel
theorem okf423 : okB Tryz.prog (plansIn plTbl) 423 = true := by decide +kernel
theorem okf424 : okB Tryz.prog (plansIn plTbl) 424 = true := by decide +kernel
theorem okf425 : okB Tryz.prog (plansIn plTbl) 425 = true := by decide +kernel
theorem okf428 : okB Tryz.prog (plansIn plTbl) 428 = true := by decide +kernel
theorem okf431 : okB Tryz.prog (plansIn plTbl) 431 = true := by decide +kernel
theorem okf432 : okB Tryz.prog (plansIn plTbl) 432 = true := by decide +kernel
theorem okf433 : okB Tryz.prog (plansIn plTbl) 433 = true := by decide +kernel
theorem okf435 : okB Tryz.prog (plansIn plTbl) 435 = true := by decide +kernel
theorem okf436 : okB Tryz.prog (plansIn plTbl) 436 = true := by decide +kernel
theorem okf438 : okB Tryz.prog (plansIn plTbl) 438 = true := by decide +kernel
theorem okf439 : okB Tryz.prog (plansIn plTbl) 439 = true := by decide +kernel
theorem okf450 : okB Tryz.prog (plansIn plTbl) 450 = true := by decide +kernel
theorem okf454 : okB Tryz.prog (plansIn plTbl) 454 = true := by decide +kernel
theorem okf457 : okB Tryz.prog (plansIn plTbl) 457 = true := by decide +kernel
theorem okf460 : okB Tryz.prog (plansIn plTbl) 460 = true := by decide +kernel
theorem okf461 : okB Tryz.prog (plansIn plTbl) 461 = true := by decide +kernel
theorem okf463 : okB Tryz.prog (plansIn plTbl) 463 = true := by decide +kernel
theorem okf466 : okB Tryz.prog (plansIn plTbl) 466 = true := by decide +kernel
theorem okf467 : okB Tryz.prog (plansIn plTbl) 467 = true := by decide +kernel
theorem okf478 : okB Tryz.prog (plansIn plTbl) 478 = true := by decide +kernel
theorem okf479 : okB Tryz.prog (plansIn plTbl) 479 = true := by decide +kernel
theorem okf480 : okB Tryz.prog (plansIn plTbl) 480 = true := by decide +kernel
theorem okf481 : okB Tryz.prog (plansIn plTbl) 481 = true := by decide +kernel
theorem okf482 : okB Tryz.prog (plansIn plTbl) 482 = true := by decide +kernel
theorem okf485 : okB Tryz.prog (plansIn plTbl) 485 = true := by decide +kernel
def plKeys : List Nat := [6, 9, 10, 11, 13, 15, 21, 22, 26, 27, 28, 29, 31, 49, 53, 55, 56, 59, 63, 66, 67, 68, 71, 72, 73, 74, 80, 84, 90, 98, 99, 104, 124, 129, 130, 131, 134, 135, 140, 144, 146, 152, 160, 164, 166, 167, 170, 175, 185, 192, 195, 196, 198, 204, 206, 211, 215, 225, 227, 230, 231, 235, 236, 240, 242, 244, 253, 254, 255, 260, 262, 267, 278, 283, 284, 285, 287, 288, 289, 290, 296, 298, 302, 303, 306, 307, 311, 319, 321, 323, 326, 330, 331, 333, 338, 339, 340, 342, 343, 344, 345, 347, 349, 352, 360, 363, 364, 365, 367, 368, 369, 370, 371, 374, 375, 376, 377, 378, 380, 381, 384, 386, 396, 403, 410, 417, 418, 419, 420, 422, 423, 424, 425, 428, 431, 432, 433, 435, 436, 438, 439, 450, 454, 457, 460, 461, 463, 466, 467, 478, 479, 480, 481, 482, 485]
theorem ok_keys : ∀ f, memN f plKeys = true → okB Tryz.prog (plansIn plTbl) f = true := (okB_cons okf6 (okB_cons okf9 (okB_cons okf10 (okB_cons okf11 (okB_cons okf13 (okB_cons okf15 (okB_cons okf21 (okB_cons okf22 (okB_cons okf26 (okB_cons okf27 (okB_cons okf28 (okB_cons okf29 (okB_cons okf31 (okB_cons okf49 (okB_cons okf53 (okB_cons okf55 (okB_cons okf56 (okB_cons okf59 (okB_cons okf63 (okB_cons okf66 (okB_cons okf67 (okB_cons okf68 (okB_cons okf71 (okB_cons okf72 (okB_cons okf73 (okB_cons okf74 (okB_cons okf80 (okB_cons okf84 (okB_cons okf90 (okB_cons okf98 (okB_cons okf99 (okB_cons okf104 (okB_cons okf124 (okB_cons okf129 (okB_cons okf130 (okB_cons okf131 (okB_cons okf134 (okB_cons okf135 (okB_cons okf140 (okB_cons okf144 (okB_cons okf146 (okB_cons okf152 (okB_cons okf160 (okB_cons okf164 (okB_cons okf166 (okB_cons okf167 (okB_cons okf170 (okB_cons okf175 (okB_cons okf185 (okB_cons okf192 (okB_cons okf195 (okB_cons okf196 (okB_cons okf198 (okB_cons okf204 (okB_cons okf206 (okB_cons okf211 (okB_cons okf215 (okB_cons okf225 (okB_cons okf227 (okB_cons okf230 (okB_cons okf231 (okB_cons okf235 (okB_cons okf236 (okB_cons okf240 (okB_cons okf242 (okB_cons okf244 (okB_cons okf253 (okB_cons okf254 (okB_cons okf255 (okB_cons okf260 (okB_cons okf262 (okB_cons okf267 (okB_cons okf278 (okB_cons okf283 (okB_cons okf284 (okB_cons okf285 (okB_cons okf287 (okB_cons okf288 (okB_cons okf289 (okB_cons okf290 (okB_cons okf296 (okB_cons okf298 (okB_cons okf302 (okB_cons okf303 (okB_cons okf306 (okB_cons okf307 (okB_cons okf311 (okB_cons okf319 (okB_cons okf321 (okB_cons okf323 (okB_cons okf326 (okB_cons okf330 (okB_cons okf331 (okB_cons okf333 (okB_cons okf338 (okB_cons okf339 (okB_cons okf340 (okB_cons okf342 (okB_cons okf343 (okB_cons okf344 (okB_cons okf345 (okB_cons okf347 (okB_cons okf349 (okB_cons okf352 (okB_cons okf360 (okB_cons okf363 (okB_cons okf364 (okB_cons okf365 (okB_cons okf367 (okB_cons okf368 (okB_cons okf369 (okB_cons okf370 (okB_cons okf371 (okB_cons okf374 (okB_cons okf375 (okB_cons okf376 (okB_cons okf377 (okB_cons okf378 (okB_cons okf380 (okB_cons okf381 (okB_cons okf384 (okB_cons okf386 (okB_cons okf396 (okB_cons okf403 (okB_cons okf410 (okB_cons okf417 (okB_cons okf418 (okB_cons okf419 (okB_cons okf420 (okB_cons okf422 (okB_cons okf423 (okB_cons okf424 (okB_cons okf425 (okB_cons okf428 (okB_cons okf431 (okB_cons okf432 (okB_cons okf433 (okB_cons okf435 (okB_cons okf436 (okB_cons okf438 (okB_cons okf439 (okB_cons okf450 (okB_cons okf454 (okB_cons okf457 (okB_cons okf460 (okB_cons okf461 (okB_cons okf463 (okB_cons okf466 (okB_cons okf467 (okB_cons okf478 (okB_cons okf479 (okB_cons okf480 (okB_cons okf481 (okB_cons okf482 (okB_cons okf485 okB_nil)))))))))))))))))))))))))))))))))))))))))))))))))))))))))))))))))))))))))))))))))))))))))))))))))))))))))))))))))))))))))))))))))))))))))))))))))))))))))))
theorem keys_all : keysIn plTbl plKeys 511 = true := by decide +kernel
theorem plans_ok : OkAll Tryz.prog (plansIn plTbl) := okB_all ok_keys keys_all (by decide +kernel)
theorem base_ok (l : List Value) (h : ∀ v ∈ l, v.oneCell' = true) (w : World) : @RunBase (sigOf (plansIn plTbl) l h w) Tryz.prog (plansIn plTbl) := RunBase.of mixed (by decide +kernel) plans_ok l h w
end Go.Proofs.YtmjjlhnddokppaaGreat.V
