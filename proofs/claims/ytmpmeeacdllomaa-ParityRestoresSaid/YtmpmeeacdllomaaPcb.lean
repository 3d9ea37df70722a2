/- Plain facts of layer 45: each matrix of factors of at most four lost blocks and as many parities becomes the unit matrix, and no pivot is 0. -/
import Derived.Test.YtmpmeeacdllomaaPca
namespace Go.Proofs.Ytmpmeeacdllomaa
open Gf
set_option maxRecDepth 100000
theorem all_1_0 : allOk 1 0 = true := by decide +kernel
theorem all_1_1 : allOk 1 1 = true := by decide +kernel
theorem all_1_2 : allOk 1 2 = true := by decide +kernel
theorem all_1_3 : allOk 1 3 = true := by decide +kernel
theorem all_1_4 : allOk 1 4 = true := by decide +kernel
theorem all_2_0 : allOk 2 0 = true := by decide +kernel
theorem all_2_1 : allOk 2 1 = true := by decide +kernel
theorem all_2_2 : allOk 2 2 = true := by decide +kernel
theorem all_2_3 : allOk 2 3 = true := by decide +kernel
theorem all_2_4 : allOk 2 4 = true := by decide +kernel
theorem all_3_0 : allOk 3 0 = true := by decide +kernel
theorem all_3_1 : allOk 3 1 = true := by decide +kernel
theorem all_3_2 : allOk 3 2 = true := by decide +kernel
theorem all_3_3 : allOk 3 3 = true := by decide +kernel
theorem all_3_4 : allOk 3 4 = true := by decide +kernel
theorem all_4_0 : allOk 4 0 = true := by decide +kernel
theorem all_4_1 : allOk 4 1 = true := by decide +kernel
theorem all_4_2 : allOk 4 2 = true := by decide +kernel
theorem all_4_3 : allOk 4 3 = true := by decide +kernel
theorem all_4_4 : allOk 4 4 = true := by decide +kernel
theorem all_5_0 : allOk 5 0 = true := by decide +kernel
theorem all_5_1 : allOk 5 1 = true := by decide +kernel
theorem all_5_2 : allOk 5 2 = true := by decide +kernel
theorem all_5_3 : allOk 5 3 = true := by decide +kernel
theorem all_5_4 : allOk 5 4 = true := by decide +kernel
theorem all_6_0 : allOk 6 0 = true := by decide +kernel
theorem all_6_1 : allOk 6 1 = true := by decide +kernel
theorem all_6_2 : allOk 6 2 = true := by decide +kernel
theorem all_6_3 : allOk 6 3 = true := by decide +kernel
theorem all_6_4 : allOk 6 4 = true := by decide +kernel
theorem all_7_0 : allOk 7 0 = true := by decide +kernel
theorem all_7_1 : allOk 7 1 = true := by decide +kernel
theorem all_7_2 : allOk 7 2 = true := by decide +kernel
theorem all_7_3 : allOk 7 3 = true := by decide +kernel
theorem all_7_4 : allOk 7 4 = true := by decide +kernel
theorem all_8_0 : allOk 8 0 = true := by decide +kernel
theorem all_8_1 : allOk 8 1 = true := by decide +kernel
theorem all_8_2 : allOk 8 2 = true := by decide +kernel
theorem all_8_3 : allOk 8 3 = true := by decide +kernel
theorem all_8_4 : allOk 8 4 = true := by decide +kernel
theorem all_ok {D g : Nat} (h1 : 1 ≤ D) (h8 : D ≤ 8) (hg : g ≤ 4) : allOk D g = true := by
  match D, g, h1, h8, hg with
  | 1, 0, _, _, _ => exact all_1_0
  | 1, 1, _, _, _ => exact all_1_1
  | 1, 2, _, _, _ => exact all_1_2
  | 1, 3, _, _, _ => exact all_1_3
  | 1, 4, _, _, _ => exact all_1_4
  | 2, 0, _, _, _ => exact all_2_0
  | 2, 1, _, _, _ => exact all_2_1
  | 2, 2, _, _, _ => exact all_2_2
  | 2, 3, _, _, _ => exact all_2_3
  | 2, 4, _, _, _ => exact all_2_4
  | 3, 0, _, _, _ => exact all_3_0
  | 3, 1, _, _, _ => exact all_3_1
  | 3, 2, _, _, _ => exact all_3_2
  | 3, 3, _, _, _ => exact all_3_3
  | 3, 4, _, _, _ => exact all_3_4
  | 4, 0, _, _, _ => exact all_4_0
  | 4, 1, _, _, _ => exact all_4_1
  | 4, 2, _, _, _ => exact all_4_2
  | 4, 3, _, _, _ => exact all_4_3
  | 4, 4, _, _, _ => exact all_4_4
  | 5, 0, _, _, _ => exact all_5_0
  | 5, 1, _, _, _ => exact all_5_1
  | 5, 2, _, _, _ => exact all_5_2
  | 5, 3, _, _, _ => exact all_5_3
  | 5, 4, _, _, _ => exact all_5_4
  | 6, 0, _, _, _ => exact all_6_0
  | 6, 1, _, _, _ => exact all_6_1
  | 6, 2, _, _, _ => exact all_6_2
  | 6, 3, _, _, _ => exact all_6_3
  | 6, 4, _, _, _ => exact all_6_4
  | 7, 0, _, _, _ => exact all_7_0
  | 7, 1, _, _, _ => exact all_7_1
  | 7, 2, _, _, _ => exact all_7_2
  | 7, 3, _, _, _ => exact all_7_3
  | 7, 4, _, _, _ => exact all_7_4
  | 8, 0, _, _, _ => exact all_8_0
  | 8, 1, _, _, _ => exact all_8_1
  | 8, 2, _, _, _ => exact all_8_2
  | 8, 3, _, _, _ => exact all_8_3
  | 8, 4, _, _, _ => exact all_8_4
  | D + 9, g, _, h, _ => omega
  | 1, g + 5, _, _, h => omega
  | 2, g + 5, _, _, h => omega
  | 3, g + 5, _, _, h => omega
  | 4, g + 5, _, _, h => omega
  | 5, g + 5, _, _, h => omega
  | 6, g + 5, _, _, h => omega
  | 7, g + 5, _, _, h => omega
  | 8, g + 5, _, _, h => omega
end Go.Proofs.Ytmpmeeacdllomaa
