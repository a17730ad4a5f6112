/-
  The plans of the regions that draw their order, printed by a program; they go with every order. No condition.
-/
import Derived.Test.YtmhpkllajmepjaaGreatEk
import Derived.Test.YtmhpkllajmepjaaGreatFacts
namespace Go.Proofs.YtmhpkllajmepjaaGreat.V
def pl9 : List (Nat × Plan) := [(8, (.pure 0 (.pure 1 (.pure 2 (.pure 3 (.read 4 (.read 5 (.eff 6 (.eff 7 (.pure 8 (.pure 9 (.eff 10 .done))))))))))))]
def pl17 : List (Nat × Plan) := [(3, (.pure 0 (.pure 1 (.pure 2 (.pure 4 (.read 3 (.read 5 (.eff 6 (.pure 7 (.pure 8 (.eff 9 (.pure 10 .done))))))))))))]
def pl27 : List (Nat × Plan) := [(6, (.pure 0 (.pure 1 (.pure 2 (.pure 4 (.pure 5 (.pure 6 (.read 3 (.read 7 (.pure 8 .done))))))))))]
def pl32 : List (Nat × Plan) := [(6, (.pure 0 (.pure 2 (.pure 3 (.pure 5 (.read 1 (.read 4 (.read 6 (.alt (.eff 7 (.pure 8 (.eff 9 (.eff 10 .done)))) (.eff 9 (.eff 7 (.pure 8 (.eff 10 .done))))))))))))),
  (9, (.pure 0 (.pure 1 (.pure 2 (.pure 4 (.pure 5 (.pure 6 (.read 3 (.read 7 (.eff 8 .done)))))))))),
  (10, (.pure 0 (.pure 1 (.pure 2 (.pure 4 (.pure 5 (.pure 6 (.pure 10 (.read 3 (.read 7 (.eff 8 (.pure 9 .done))))))))))))]
def pl36 : List (Nat × Plan) := [(10, (.pure 0 (.pure 1 (.pure 2 (.pure 4 (.read 3 (.read 5 (.eff 6 .done)))))))),
  (12, (.pure 0 (.pure 1 (.pure 2 (.pure 4 (.pure 5 (.pure 6 (.read 3 (.read 7 (.pure 8 (.read 9 .done))))))))))),
  (14, (.pure 0 (.pure 1 (.pure 2 (.pure 4 (.pure 5 (.pure 6 (.read 3 (.read 7 (.eff 8 .done))))))))))]
def pl41 : List (Nat × Plan) := [(3, (.read 0 (.eff 1 (.eff 2 (.pure 3 (.eff 4 (.pure 5 .done)))))))]
def pl44 : List (Nat × Plan) := [(5, (.pure 0 (.pure 1 (.pure 2 (.pure 3 (.pure 5 (.read 4 (.read 7 (.eff 6 (.eff 8 (.pure 9 .done)))))))))))]
def pl48 : List (Nat × Plan) := [(1, (.pure 0 (.pure 1 (.pure 2 (.pure 4 (.read 3 (.read 5 (.eff 6 (.pure 7 (.pure 8 (.pure 9 (.pure 10 (.pure 11 .done)))))))))))))]
def pl68 : List (Nat × Plan) := [(6, (.pure 0 (.pure 1 (.pure 2 (.pure 4 (.pure 6 (.pure 8 (.pure 9 (.pure 10 (.pure 11 (.pure 13 (.pure 16 (.pure 17 (.pure 18 (.pure 20 (.pure 21 (.pure 22 (.read 3 (.read 5 (.read 7 (.read 12 (.read 14 (.read 19 (.read 23 (.eff 15 (.eff 24 (.pure 25 (.eff 26 (.pure 27 (.pure 28 (.pure 29 (.pure 30 (.pure 31 .done))))))))))))))))))))))))))))))))),
  (12, (.pure 0 (.pure 1 (.pure 2 (.pure 4 (.pure 5 (.pure 6 (.pure 8 (.read 3 (.read 7 (.eff 9 .done)))))))))))]
def pl69 : List (Nat × Plan) := [(8, (.pure 0 (.pure 1 (.pure 2 (.pure 3 (.pure 5 (.pure 6 (.pure 7 (.pure 8 (.pure 9 (.read 4 (.read 10 (.eff 11 (.eff 12 (.eff 13 (.pure 14 (.pure 15 (.eff 16 .done))))))))))))))))))]
def pl73 : List (Nat × Plan) := [(1, (.pure 0 (.pure 1 (.pure 2 (.pure 4 (.read 3 (.read 5 (.eff 6 (.pure 7 (.pure 8 (.pure 9 (.pure 10 (.pure 11 .done))))))))))))),
  (4, (.pure 0 (.pure 1 (.pure 2 (.pure 4 (.pure 5 (.pure 6 (.read 3 (.read 7 (.eff 8 .done))))))))))]
def pl74 : List (Nat × Plan) := [(1, (.pure 0 (.pure 1 (.pure 2 (.pure 4 (.pure 5 (.pure 6 (.read 3 (.read 7 (.eff 8 (.pure 9 (.pure 10 (.pure 11 (.pure 12 (.pure 13 .done))))))))))))))),
  (4, (.pure 0 (.pure 1 (.pure 2 (.pure 4 (.pure 6 (.read 3 (.read 5 (.eff 7 .done)))))))))]
def pl84 : List (Nat × Plan) := [(2, (.pure 0 (.pure 1 (.pure 2 (.pure 4 (.read 3 (.read 5 (.eff 6 .done)))))))),
  (5, (.pure 0 (.pure 1 (.pure 2 (.read 3 (.read 4 (.eff 5 (.eff 6 .done)))))))),
  (6, (.pure 0 (.pure 1 (.pure 2 (.pure 4 (.pure 5 (.pure 6 (.pure 8 (.read 3 (.read 7 (.pure 9 (.read 10 (.eff 11 .done)))))))))))))]
def pl92 : List (Nat × Plan) := [(1, (.pure 0 (.pure 1 (.pure 3 (.pure 4 (.pure 5 (.pure 6 (.read 2 (.read 7 (.pure 8 (.pure 9 (.pure 10 (.pure 11 (.eff 12 .done))))))))))))))]
def pl102 : List (Nat × Plan) := [(1, (.pure 0 (.pure 3 (.read 1 (.read 4 (.eff 2 (.pure 6 (.eff 5 (.eff 7 (.pure 8 (.eff 9 .done)))))))))))]
def pl122 : List (Nat × Plan) := [(20, (.pure 0 (.pure 1 (.pure 2 (.pure 5 (.read 3 (.pure 4 (.read 6 (.pure 7 .done))))))))),
  (21, (.pure 0 (.pure 1 (.pure 2 (.pure 3 (.pure 4 (.pure 6 (.pure 9 (.pure 10 (.pure 11 (.pure 13 (.read 5 (.read 12 (.alt (.eff 7 (.alt (.eff 8 (.eff 14 (.eff 15 (.pure 16 (.pure 17 (.eff 18 (.pure 19 (.pure 20 (.eff 21 .done))))))))) (.eff 14 (.eff 8 (.eff 15 (.pure 16 (.pure 17 (.eff 18 (.pure 19 (.pure 20 (.eff 21 .done))))))))))) (.eff 14 (.eff 7 (.eff 8 (.eff 15 (.pure 16 (.pure 17 (.eff 18 (.pure 19 (.pure 20 (.eff 21 .done)))))))))))))))))))))))),
  (22, (.pure 0 (.pure 1 (.pure 2 (.pure 4 (.pure 6 (.pure 7 (.pure 8 (.pure 10 (.read 3 (.read 5 (.read 9 (.read 12 (.alt (.eff 11 (.alt (.eff 13 (.pure 15 (.alt (.eff 14 (.eff 16 (.pure 17 (.eff 18 .done)))) (.eff 16 (.read 14 (.pure 17 (.eff 18 .done))))))) (.eff 14 (.eff 13 (.pure 15 (.eff 16 (.pure 17 (.eff 18 .done)))))))) (.alt (.eff 13 (.pure 15 (.alt (.eff 11 (.alt (.eff 14 (.eff 16 (.pure 17 (.eff 18 .done)))) (.eff 16 (.read 14 (.pure 17 (.eff 18 .done)))))) (.alt (.eff 14 (.alt (.eff 11 (.eff 16 (.pure 17 (.eff 18 .done)))) (.eff 16 (.read 11 (.pure 17 (.eff 18 .done)))))) (.eff 16 (.read 11 (.read 14 (.pure 17 (.eff 18 .done))))))))) (.eff 14 (.alt (.eff 11 (.eff 13 (.pure 15 (.eff 16 (.pure 17 (.eff 18 .done)))))) (.eff 13 (.pure 15 (.alt (.eff 11 (.eff 16 (.pure 17 (.eff 18 .done)))) (.eff 16 (.read 11 (.pure 17 (.eff 18 .done)))))))))))))))))))))))),
  (23, (.pure 0 (.pure 1 (.pure 2 (.pure 4 (.pure 6 (.read 3 (.read 5 (.read 7 (.eff 8 .done)))))))))),
  (24, (.pure 0 (.pure 1 (.pure 2 (.pure 4 (.read 3 (.read 5 (.eff 6 .done))))))))]
def pl124 : List (Nat × Plan) := [(23, (.pure 0 (.pure 1 (.pure 2 (.pure 4 (.pure 5 (.pure 6 (.pure 7 (.pure 9 (.pure 11 (.read 3 (.read 8 (.read 10 (.eff 12 (.eff 13 (.eff 14 .done))))))))))))))))]
def pl126 : List (Nat × Plan) := [(2, (.pure 0 (.pure 1 (.pure 2 (.pure 3 (.pure 4 (.pure 5 (.pure 7 (.pure 8 (.read 6 (.read 9 (.eff 10 (.pure 11 (.pure 12 .done))))))))))))))]
def pl154 : List (Nat × Plan) := [(5, (.pure 0 (.pure 1 (.pure 2 (.pure 4 (.pure 6 (.read 3 (.read 5 (.read 7 (.pure 8 (.pure 9 (.pure 10 (.eff 11 .done))))))))))))),
  (6, (.pure 0 (.pure 1 (.pure 2 (.pure 3 (.pure 5 (.read 4 (.read 6 (.eff 7 (.eff 8 (.pure 9 (.pure 10 (.eff 11 .done)))))))))))))]
def pl186 : List (Nat × Plan) := [(6, (.pure 1 (.pure 2 (.pure 3 (.read 0 (.read 4 (.eff 5 .done)))))))]
def pl191 : List (Nat × Plan) := [(6, (.pure 0 (.pure 1 (.pure 2 (.pure 4 (.pure 5 (.pure 6 (.read 3 (.read 7 (.pure 8 .done))))))))))]
def pl192 : List (Nat × Plan) := [(3, (.pure 0 (.pure 1 (.pure 2 (.pure 3 (.pure 5 (.pure 6 (.pure 7 (.pure 8 (.read 4 (.pure 10 (.read 9 (.pure 11 .done)))))))))))))]
def pl196 : List (Nat × Plan) := [(9, (.pure 0 (.pure 1 (.pure 2 (.pure 5 (.pure 6 (.pure 7 (.read 3 (.pure 4 (.read 8 (.pure 9 (.pure 10 .done))))))))))))]
def pl197 : List (Nat × Plan) := [(9, (.pure 0 (.pure 1 (.pure 2 (.pure 6 (.pure 7 (.pure 8 (.read 3 (.pure 4 (.pure 5 (.read 9 (.pure 10 (.pure 11 (.pure 12 .done))))))))))))))]
def pl201 : List (Nat × Plan) := [(11, (.pure 0 (.pure 1 (.pure 2 (.pure 4 (.pure 5 (.pure 6 (.read 3 (.read 7 (.pure 8 .done)))))))))),
  (19, (.pure 0 (.pure 1 (.pure 2 (.pure 4 (.pure 5 (.pure 6 (.read 3 (.read 7 (.pure 8 (.pure 9 .done))))))))))),
  (23, (.pure 0 (.pure 1 (.pure 2 (.pure 4 (.pure 5 (.pure 6 (.pure 7 (.pure 9 (.read 3 (.read 8 (.pure 10 (.pure 11 (.eff 12 (.pure 13 (.eff 14 .done))))))))))))))))]
def pl218 : List (Nat × Plan) := [(3, (.pure 0 (.pure 1 (.pure 2 (.pure 4 (.pure 5 (.pure 6 (.read 3 (.pure 8 (.read 7 (.pure 9 .done)))))))))))]
def pl221 : List (Nat × Plan) := [(1, (.pure 0 (.pure 1 (.pure 2 (.pure 4 (.pure 6 (.pure 7 (.pure 8 (.read 3 (.read 9 (.pure 10 (.pure 11 (.eff 5 (.pure 12 (.pure 13 .done))))))))))))))),
  (2, (.pure 0 (.pure 1 (.pure 2 (.pure 4 (.read 3 (.pure 5 (.read 6 (.pure 7 (.pure 8 (.pure 9 (.pure 10 (.pure 11 (.pure 13 (.pure 14 (.pure 15 (.pure 17 (.pure 26 (.read 12 (.read 16 (.pure 18 (.read 19 (.pure 20 (.pure 21 (.read 22 (.pure 23 (.pure 24 (.read 25 (.pure 27 (.pure 28 .done))))))))))))))))))))))))))))))]
def pl228 : List (Nat × Plan) := [(1, (.pure 0 (.pure 1 (.pure 2 (.pure 4 (.pure 6 (.pure 7 (.pure 8 (.read 3 (.read 9 (.pure 10 (.eff 5 (.eff 11 (.pure 12 (.pure 13 (.pure 14 (.pure 15 (.pure 16 .done))))))))))))))))))]
def pl231 : List (Nat × Plan) := [(2, (.pure 0 (.pure 1 (.pure 2 (.pure 4 (.read 3 (.read 5 (.eff 6 .done)))))))),
  (5, (.pure 0 (.pure 1 (.pure 2 (.pure 4 (.read 3 (.read 5 (.eff 6 .done))))))))]
def pl245 : List (Nat × Plan) := [(1, (.pure 0 (.pure 1 (.pure 2 (.pure 4 (.pure 5 (.pure 6 (.pure 8 (.pure 10 (.pure 11 (.pure 12 (.read 3 (.read 7 (.read 13 (.pure 14 (.pure 15 (.eff 9 (.pure 16 (.pure 17 (.pure 18 .done))))))))))))))))))))]
def pl264 : List (Nat × Plan) := [(3, (.pure 0 (.pure 1 (.pure 2 (.pure 3 (.pure 5 (.pure 6 (.pure 7 (.pure 8 (.read 4 (.pure 10 (.read 9 (.pure 11 .done)))))))))))))]
def pl272 : List (Nat × Plan) := [(3, (.pure 0 (.pure 1 (.pure 2 (.pure 4 (.pure 5 (.pure 6 (.pure 8 (.read 3 (.read 7 (.eff 9 (.pure 10 (.pure 11 .done)))))))))))))]
def pl339 : List (Nat × Plan) := [(6, (.pure 0 (.pure 1 (.pure 2 (.pure 3 (.pure 4 (.pure 5 (.pure 6 (.pure 7 (.pure 8 (.pure 10 (.read 9 (.pure 11 (.read 12 (.pure 13 (.pure 14 (.read 15 (.eff 16 (.pure 17 (.pure 18 .done))))))))))))))))))))]
def plTbl : Tr (List (Nat × Plan)) := (.n none (.n none (.n none (.n none (.n none (.n none (.n none .e (.n (some pl191) .e .e)) .e) .e) (.n none (.n none .e (.n none .e (.n (some pl231) .e .e))) .e)) (.n none (.n none .e (.n none (.n none .e (.n none (.n (some pl339) .e .e) .e)) .e)) (.n (some pl27) .e .e))) (.n none (.n (some pl9) (.n (some pl17) .e .e) (.n none (.n (some pl41) (.n (some pl73) .e (.n (some pl201) .e .e)) .e) .e)) (.n none (.n none (.n none (.n (some pl69) .e (.n (some pl197) .e .e)) .e) (.n none .e (.n none .e (.n (some pl245) .e .e)))) (.n none .e (.n none (.n none .e (.n (some pl221) .e .e)) .e))))) (.n none (.n none (.n none (.n none (.n (some pl32) (.n none .e (.n (some pl192) .e .e)) .e) (.n (some pl48) (.n none (.n none (.n (some pl272) .e .e) .e) .e) .e)) (.n none (.n none (.n none (.n none (.n (some pl264) .e .e) .e) .e) .e) .e)) (.n none (.n none (.n (some pl36) (.n (some pl68) .e (.n (some pl196) .e .e)) (.n none .e (.n (some pl228) .e .e))) (.n none (.n (some pl84) .e .e) .e)) (.n none (.n (some pl44) .e .e) (.n none (.n (some pl92) .e .e) (.n (some pl124) .e .e))))) (.n none (.n none .e (.n none (.n none (.n (some pl74) .e .e) .e) (.n none (.n none (.n (some pl154) .e .e) (.n (some pl218) .e .e)) (.n (some pl122) (.n (some pl186) .e .e) .e)))) (.n none (.n none (.n none .e (.n (some pl102) .e .e)) .e) (.n none .e (.n none .e (.n (some pl126) .e .e)))))))
theorem okf9 : okB Tryz.prog (plansIn plTbl) 9 = true := by decide +kernel
theorem okf17 : okB Tryz.prog (plansIn plTbl) 17 = true := by decide +kernel
theorem okf27 : okB Tryz.prog (plansIn plTbl) 27 = true := by decide +kernel
theorem okf32 : okB Tryz.prog (plansIn plTbl) 32 = true := by decide +kernel
theorem okf36 : okB Tryz.prog (plansIn plTbl) 36 = true := by decide +kernel
theorem okf41 : okB Tryz.prog (plansIn plTbl) 41 = true := by decide +kernel
theorem okf44 : okB Tryz.prog (plansIn plTbl) 44 = true := by decide +kernel
theorem okf48 : okB Tryz.prog (plansIn plTbl) 48 = true := by decide +kernel
theorem okf68 : okB Tryz.prog (plansIn plTbl) 68 = true := by decide +kernel
theorem okf69 : okB Tryz.prog (plansIn plTbl) 69 = true := by decide +kernel
theorem okf73 : okB Tryz.prog (plansIn plTbl) 73 = true := by decide +kernel
theorem okf74 : okB Tryz.prog (plansIn plTbl) 74 = true := by decide +kernel
theorem okf84 : okB Tryz.prog (plansIn plTbl) 84 = true := by decide +kernel
theorem okf92 : okB Tryz.prog (plansIn plTbl) 92 = true := by decide +kernel
theorem okf102 : okB Tryz.prog (plansIn plTbl) 102 = true := by decide +kernel
theorem okf122 : okB Tryz.prog (plansIn plTbl) 122 = true := by decide +kernel
theorem okf124 : okB Tryz.prog (plansIn plTbl) 124 = true := by decide +kernel
theorem okf126 : okB Tryz.prog (plansIn plTbl) 126 = true := by decide +kernel
theorem okf154 : okB Tryz.prog (plansIn plTbl) 154 = true := by decide +kernel
theorem okf186 : okB Tryz.prog (plansIn plTbl) 186 = true := by decide +kernel
theorem okf191 : okB Tryz.prog (plansIn plTbl) 191 = true := by decide +kernel
theorem okf192 : okB Tryz.prog (plansIn plTbl) 192 = true := by decide +kernel
theorem okf196 : okB Tryz.prog (plansIn plTbl) 196 = true := by decide +kernel
theorem okf197 : okB Tryz.prog (plansIn plTbl) 197 = true := by decide +kernel
theorem okf201 : okB Tryz.prog (plansIn plTbl) 201 = true := by decide +kernel
theorem okf218 : okB Tryz.prog (plansIn plTbl) 218 = true := by decide +kernel
theorem okf221 : okB Tryz.prog (plansIn plTbl) 221 = true := by decide +kernel
theorem okf228 : okB Tryz.prog (plansIn plTbl) 228 = true := by decide +kernel
theorem okf231 : okB Tryz.prog (plansIn plTbl) 231 = true := by decide +kernel
theorem okf245 : okB Tryz.prog (plansIn plTbl) 245 = true := by decide +kernel
theorem okf264 : okB Tryz.prog (plansIn plTbl) 264 = true := by decide +kernel
theorem okf272 : okB Tryz.prog (plansIn plTbl) 272 = true := by decide +kernel
theorem okf339 : okB Tryz.prog (plansIn plTbl) 339 = true := by decide +kernel
def plKeys : List Nat := [9, 17, 27, 32, 36, 41, 44, 48, 68, 69, 73, 74, 84, 92, 102, 122, 124, 126, 154, 186, 191, 192, 196, 197, 201, 218, 221, 228, 231, 245, 264, 272, 339]
theorem ok_keys : ∀ f, memN f plKeys = true → okB Tryz.prog (plansIn plTbl) f = true := (okB_cons okf9 (okB_cons okf17 (okB_cons okf27 (okB_cons okf32 (okB_cons okf36 (okB_cons okf41 (okB_cons okf44 (okB_cons okf48 (okB_cons okf68 (okB_cons okf69 (okB_cons okf73 (okB_cons okf74 (okB_cons okf84 (okB_cons okf92 (okB_cons okf102 (okB_cons okf122 (okB_cons okf124 (okB_cons okf126 (okB_cons okf154 (okB_cons okf186 (okB_cons okf191 (okB_cons okf192 (okB_cons okf196 (okB_cons okf197 (okB_cons okf201 (okB_cons okf218 (okB_cons okf221 (okB_cons okf228 (okB_cons okf231 (okB_cons okf245 (okB_cons okf264 (okB_cons okf272 (okB_cons okf339 okB_nil)))))))))))))))))))))))))))))))))
theorem keys_all : keysIn plTbl plKeys 371 = true := by decide +kernel
theorem plans_ok : OkAll Tryz.prog (plansIn plTbl) := okB_all ok_keys keys_all (by decide +kernel)
end Go.Proofs.YtmhpkllajmepjaaGreat.V
