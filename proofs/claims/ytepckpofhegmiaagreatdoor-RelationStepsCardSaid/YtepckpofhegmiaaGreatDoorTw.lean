/- The tale of agoralaw21.small counted out: every key, id, signature and digest is a literal, and the kernel checks it. No program in sight. Written by wip/dev/gen_small.py. -/
import Derived.Test.YtepckpofhegmiaaGreatDoorTv
set_option linter.unusedVariables false
set_option linter.unusedSimpArgs false
namespace Go.Proofs.YtepckpofhegmiaaGreatDoor
open Go Go.Proofs Sy

theorem sk_0 : keyA 0 = ⟨((75649259359050845 : Nat) : Int), ((635858698746329093 : Nat) : Int)⟩ := key_lit (by decide +kernel) (by decide +kernel)
def skI0 : ByteArray := ⟨#[54, 100, 51, 52, 53, 98, 52, 101, 53, 101, 102, 54, 97, 101, 49, 48]⟩
theorem skid_0 : idA21 0 = skI0 := id_lit sk_0 (by decide +kernel)
theorem sk_1 : keyA 1 = ⟨((823285488871545904 : Nat) : Int), ((1142868023010079171 : Nat) : Int)⟩ := key_lit (by decide +kernel) (by decide +kernel)
def skI1 : ByteArray := ⟨#[97, 98, 99, 97, 98, 51, 54, 51, 51, 52, 57, 52, 50, 100, 102, 55]⟩
theorem skid_1 : idA21 1 = skI1 := id_lit sk_1 (by decide +kernel)
theorem sk_2 : keyA 2 = ⟨((396046176107505149 : Nat) : Int), ((1552640034848769387 : Nat) : Int)⟩ := key_lit (by decide +kernel) (by decide +kernel)
def skI2 : ByteArray := ⟨#[50, 102, 54, 98, 100, 56, 57, 100, 99, 56, 56, 100, 56, 53, 100, 99]⟩
theorem skid_2 : idA21 2 = skI2 := id_lit sk_2 (by decide +kernel)
theorem sk_3 : keyA 3 = ⟨((142765244967754923 : Nat) : Int), ((1027464471063305804 : Nat) : Int)⟩ := key_lit (by decide +kernel) (by decide +kernel)
def skI3 : ByteArray := ⟨#[53, 52, 54, 49, 48, 51, 102, 53, 102, 52, 56, 97, 49, 97, 54, 55]⟩
theorem skid_3 : idA21 3 = skI3 := id_lit sk_3 (by decide +kernel)
def skUB0 : ActD := { ActD.zero with author := skI0, text := actorB, n := ((635858698746329093 : Nat) : Int) }
def skAB0 : ActD := skUB0.sig ⟨((1939931806634019543 : Nat) : Int), ((845777667358845838 : Nat) : Int)⟩
def skMB0 : List Nat := [3, 97, 99, 116, 16, 54, 100, 51, 52, 53, 98, 52, 101, 53, 101, 102, 54, 97, 101, 49, 48, 0, 0, 0, 0, 0, 0, 0, 0, 0, 5, 97, 99, 116, 111, 114, 0, 0, 0, 0, 0, 133, 240, 247, 208, 225, 195, 193, 233, 8, 0]
theorem skp_B0 : skUB0.Pos := ⟨by decide, by decide, by decide, by decide, by decide, by decide, by decide, rfl, rfl⟩
theorem skm_B0 : nl (coreV (skUB0.sig SgD.zero)) = skMB0 := (core_nl skUB0 skp_B0).trans (by decide +kernel)
theorem skl_B0 : skMB0.length = 51 := by decide +kernel
theorem sks_B0 : actSignV (keyA 0) skUB0 = skAB0 := sign_lit sk_0 (by decide +kernel) skm_B0 (by rw [skl_B0]; decide) (K := 406782019062804703) (R := 1452210288541861186) (by decide +kernel) (by decide +kernel) (by decide +kernel) (by decide +kernel)
def skDB0 : ByteArray := ⟨#[99, 116, 134, 170, 67, 143, 20, 41, 215, 42, 156, 8, 183, 157, 98, 78, 87, 102, 40, 230, 10, 69, 141, 138, 46, 224, 114, 41, 177, 9, 30, 167]⟩
theorem skr_B0 : rightB skAB0 = true := by decide +kernel
theorem skd_B0 : digV skAB0 = skDB0 := dig_lit skr_B0 ((congrArg nl (core_sig skUB0 _ _)).trans skm_B0) (by rw [skl_B0]; decide) (by rw [skl_B0]; decide) (E := 1939931806634019543) (G := 845777667358845838) rfl rfl (by decide +kernel)
theorem skdr_0 : draftB 0 = skUB0 := by
  unfold draftB draftV idC
  rw [skid_0, sk_0]
  rfl
theorem skact_0 : actB 0 = skAB0 := by
  rw [actB, skdr_0, sks_B0]
def skC0 : ChainD := { ChainD.zero with id := skI0, acts := ⟨none, 1, 0⟩, keys := ⟨none, 1, 0⟩, prev := skDB0, actsL := [skAB0] }
theorem skbeg_0 : beginC 0 = skC0 := by
  unfold beginC idC
  rw [skid_0, skact_0, skd_B0]
  rfl
def skUB1 : ActD := { ActD.zero with author := skI1, text := actorB, n := ((1142868023010079171 : Nat) : Int) }
def skAB1 : ActD := skUB1.sig ⟨((1737318329840350453 : Nat) : Int), ((1287981313314873311 : Nat) : Int)⟩
def skMB1 : List Nat := [3, 97, 99, 116, 16, 97, 98, 99, 97, 98, 51, 54, 51, 51, 52, 57, 52, 50, 100, 102, 55, 0, 0, 0, 0, 0, 0, 0, 0, 0, 5, 97, 99, 116, 111, 114, 0, 0, 0, 0, 0, 195, 227, 172, 197, 150, 141, 146, 238, 15, 0]
theorem skp_B1 : skUB1.Pos := ⟨by decide, by decide, by decide, by decide, by decide, by decide, by decide, rfl, rfl⟩
theorem skm_B1 : nl (coreV (skUB1.sig SgD.zero)) = skMB1 := (core_nl skUB1 skp_B1).trans (by decide +kernel)
theorem skl_B1 : skMB1.length = 51 := by decide +kernel
theorem sks_B1 : actSignV (keyA 1) skUB1 = skAB1 := sign_lit sk_1 (by decide +kernel) skm_B1 (by rw [skl_B1]; decide) (K := 987475036117979599) (R := 1328077779498243721) (by decide +kernel) (by decide +kernel) (by decide +kernel) (by decide +kernel)
def skDB1 : ByteArray := ⟨#[27, 33, 9, 198, 97, 239, 174, 77, 155, 233, 147, 143, 67, 208, 62, 170, 170, 250, 217, 108, 97, 96, 242, 129, 120, 7, 38, 4, 26, 70, 45, 56]⟩
theorem skr_B1 : rightB skAB1 = true := by decide +kernel
theorem skd_B1 : digV skAB1 = skDB1 := dig_lit skr_B1 ((congrArg nl (core_sig skUB1 _ _)).trans skm_B1) (by rw [skl_B1]; decide) (by rw [skl_B1]; decide) (E := 1737318329840350453) (G := 1287981313314873311) rfl rfl (by decide +kernel)
theorem skdr_1 : draftB 1 = skUB1 := by
  unfold draftB draftV idC
  rw [skid_1, sk_1]
  rfl
theorem skact_1 : actB 1 = skAB1 := by
  rw [actB, skdr_1, sks_B1]
def skC1 : ChainD := { ChainD.zero with id := skI1, acts := ⟨none, 1, 0⟩, keys := ⟨none, 1, 0⟩, prev := skDB1, actsL := [skAB1] }
theorem skbeg_1 : beginC 1 = skC1 := by
  unfold beginC idC
  rw [skid_1, skact_1, skd_B1]
  rfl
def skUB2 : ActD := { ActD.zero with author := skI2, text := actorB, n := ((1552640034848769387 : Nat) : Int) }
def skAB2 : ActD := skUB2.sig ⟨((1215896338451646078 : Nat) : Int), ((1739342460070045269 : Nat) : Int)⟩
def skMB2 : List Nat := [3, 97, 99, 116, 16, 50, 102, 54, 98, 100, 56, 57, 100, 99, 56, 56, 100, 56, 53, 100, 99, 0, 0, 0, 0, 0, 0, 0, 0, 0, 5, 97, 99, 116, 111, 114, 0, 0, 0, 0, 0, 235, 138, 216, 233, 170, 188, 133, 198, 21, 0]
theorem skp_B2 : skUB2.Pos := ⟨by decide, by decide, by decide, by decide, by decide, by decide, by decide, rfl, rfl⟩
theorem skm_B2 : nl (coreV (skUB2.sig SgD.zero)) = skMB2 := (core_nl skUB2 skp_B2).trans (by decide +kernel)
theorem skl_B2 : skMB2.length = 51 := by decide +kernel
theorem sks_B2 : actSignV (keyA 2) skUB2 = skAB2 := sign_lit sk_2 (by decide +kernel) skm_B2 (by rw [skl_B2]; decide) (K := 1293130639516625097) (R := 1036080873553107611) (by decide +kernel) (by decide +kernel) (by decide +kernel) (by decide +kernel)
def skDB2 : ByteArray := ⟨#[31, 114, 144, 15, 202, 184, 213, 202, 226, 87, 154, 89, 72, 82, 227, 72, 162, 118, 146, 205, 102, 93, 114, 28, 70, 208, 188, 199, 30, 50, 182, 88]⟩
theorem skr_B2 : rightB skAB2 = true := by decide +kernel
theorem skd_B2 : digV skAB2 = skDB2 := dig_lit skr_B2 ((congrArg nl (core_sig skUB2 _ _)).trans skm_B2) (by rw [skl_B2]; decide) (by rw [skl_B2]; decide) (E := 1215896338451646078) (G := 1739342460070045269) rfl rfl (by decide +kernel)
theorem skdr_2 : draftB 2 = skUB2 := by
  unfold draftB draftV idC
  rw [skid_2, sk_2]
  rfl
theorem skact_2 : actB 2 = skAB2 := by
  rw [actB, skdr_2, sks_B2]
def skC2 : ChainD := { ChainD.zero with id := skI2, acts := ⟨none, 1, 0⟩, keys := ⟨none, 1, 0⟩, prev := skDB2, actsL := [skAB2] }
theorem skbeg_2 : beginC 2 = skC2 := by
  unfold beginC idC
  rw [skid_2, skact_2, skd_B2]
  rfl
def skUB3 : ActD := { ActD.zero with author := skI3, text := actorB, n := ((1027464471063305804 : Nat) : Int) }
def skAB3 : ActD := skUB3.sig ⟨((901332720148553 : Nat) : Int), ((1625572105938181316 : Nat) : Int)⟩
def skMB3 : List Nat := [3, 97, 99, 116, 16, 53, 52, 54, 49, 48, 51, 102, 53, 102, 52, 56, 97, 49, 97, 54, 55, 0, 0, 0, 0, 0, 0, 0, 0, 0, 5, 97, 99, 116, 111, 114, 0, 0, 0, 0, 0, 204, 188, 192, 136, 226, 175, 146, 161, 14, 0]
theorem skp_B3 : skUB3.Pos := ⟨by decide, by decide, by decide, by decide, by decide, by decide, by decide, rfl, rfl⟩
theorem skm_B3 : nl (coreV (skUB3.sig SgD.zero)) = skMB3 := (core_nl skUB3 skp_B3).trans (by decide +kernel)
theorem skl_B3 : skMB3.length = 51 := by decide +kernel
theorem sks_B3 : actSignV (keyA 3) skUB3 = skAB3 := sign_lit sk_3 (by decide +kernel) skm_B3 (by rw [skl_B3]; decide) (K := 2294339980723068347) (R := 1258655847158687999) (by decide +kernel) (by decide +kernel) (by decide +kernel) (by decide +kernel)
def skDB3 : ByteArray := ⟨#[94, 26, 172, 154, 44, 80, 223, 217, 213, 69, 76, 57, 10, 151, 173, 26, 96, 65, 111, 11, 35, 39, 42, 249, 89, 88, 203, 53, 40, 43, 73, 158]⟩
theorem skr_B3 : rightB skAB3 = true := by decide +kernel
theorem skd_B3 : digV skAB3 = skDB3 := dig_lit skr_B3 ((congrArg nl (core_sig skUB3 _ _)).trans skm_B3) (by rw [skl_B3]; decide) (by rw [skl_B3]; decide) (E := 901332720148553) (G := 1625572105938181316) rfl rfl (by decide +kernel)
theorem skdr_3 : draftB 3 = skUB3 := by
  unfold draftB draftV idC
  rw [skid_3, sk_3]
  rfl
theorem skact_3 : actB 3 = skAB3 := by
  rw [actB, skdr_3, sks_B3]
def skC3 : ChainD := { ChainD.zero with id := skI3, acts := ⟨none, 1, 0⟩, keys := ⟨none, 1, 0⟩, prev := skDB3, actsL := [skAB3] }
theorem skbeg_3 : beginC 3 = skC3 := by
  unfold beginC idC
  rw [skid_3, skact_3, skd_B3]
  rfl
theorem skbeg : (List.range 4).map beginC = [skC0, skC1, skC2, skC3] := by
  rw [show (List.range 4).map beginC = [beginC 0, beginC 1, beginC 2, beginC 3] from rfl, skbeg_0, skbeg_1, skbeg_2, skbeg_3]
def skUF : ActD := { ActD.zero with author := skI1, seq := 1, kind := 7, prev := skDB1, target := skI0 }
def skAF : ActD := skUF.sig ⟨((1625076300404520166 : Nat) : Int), ((1077165000783064649 : Nat) : Int)⟩
def skMF : List Nat := [3, 97, 99, 116, 16, 97, 98, 99, 97, 98, 51, 54, 51, 51, 52, 57, 52, 50, 100, 102, 55, 1, 32, 27, 33, 9, 198, 97, 239, 174, 77, 155, 233, 147, 143, 67, 208, 62, 170, 170, 250, 217, 108, 97, 96, 242, 129, 120, 7, 38, 4, 26, 70, 45, 56, 7, 0, 0, 16, 54, 100, 51, 52, 53, 98, 52, 101, 53, 101, 102, 54, 97, 101, 49, 48, 0, 0, 0, 0, 0, 0, 0, 0, 0, 0, 0]
theorem skp_F : skUF.Pos := ⟨by decide, by decide, by decide, by decide, by decide, by decide, by decide, rfl, rfl⟩
theorem skm_F : nl (coreV (skUF.sig SgD.zero)) = skMF := (core_nl skUF skp_F).trans (by decide +kernel)
theorem skl_F : skMF.length = 86 := by decide +kernel
theorem sks_F : actSignV (keyA 1) skUF = skAF := sign_lit sk_1 (by decide +kernel) skm_F (by rw [skl_F]; decide) (K := 874236045018185935) (R := 950349806340608340) (by decide +kernel) (by decide +kernel) (by decide +kernel) (by decide +kernel)
def skDF : ByteArray := ⟨#[69, 47, 162, 37, 111, 99, 51, 197, 183, 87, 164, 236, 12, 165, 111, 133, 72, 234, 218, 93, 226, 255, 247, 65, 70, 151, 85, 76, 126, 168, 76, 19]⟩
theorem skr_F : rightB skAF = true := by decide +kernel
theorem skd_F : digV skAF = skDF := dig_lit skr_F ((congrArg nl (core_sig skUF _ _)).trans skm_F) (by rw [skl_F]; decide) (by rw [skl_F]; decide) (E := 1625076300404520166) (G := 1077165000783064649) rfl rfl (by decide +kernel)
def skw1 : WishD := ⟨1, 7, 0, 0, ⟨#[]⟩, 0⟩
theorem skt_F : draftW skC1 skw1 [] = skUF := (draftW_t (by decide) (j := 0) (by decide) skid_0).trans rfl
def skC1F : ChainD := { skC1 with acts := ⟨none, 2, 0⟩, actsL := [skAB1, skAF], prev := skDF }
theorem skst_1 : toldS ([skC0, skC1, skC2, skC3], []) skw1 = ([skC0, skC1F, skC2, skC3], [skDF]) := (step_lit (cs := [skC0, skC1, skC2, skC3]) (ks := []) (w := skw1) (c := skC1) (i := 1) (by decide) rfl skt_F sks_F (by decide +kernel) skd_F).trans rfl
theorem skto_1 : toldV [skw1] = ([skC0, skC1F, skC2, skC3], [skDF]) := by
  rw [toldV, skbeg]
  simp only [List.foldl_cons, List.foldl_nil, skst_1]
def skUG : ActD := { ActD.zero with author := skI0, seq := 1, kind := 8, prev := skDB0, target := skI1 }
def skAG : ActD := skUG.sig ⟨((1607610893585009987 : Nat) : Int), ((276096347596885687 : Nat) : Int)⟩
def skMG : List Nat := [3, 97, 99, 116, 16, 54, 100, 51, 52, 53, 98, 52, 101, 53, 101, 102, 54, 97, 101, 49, 48, 1, 32, 99, 116, 134, 170, 67, 143, 20, 41, 215, 42, 156, 8, 183, 157, 98, 78, 87, 102, 40, 230, 10, 69, 141, 138, 46, 224, 114, 41, 177, 9, 30, 167, 8, 0, 0, 16, 97, 98, 99, 97, 98, 51, 54, 51, 51, 52, 57, 52, 50, 100, 102, 55, 0, 0, 0, 0, 0, 0, 0, 0, 0, 0, 0]
theorem skp_G : skUG.Pos := ⟨by decide, by decide, by decide, by decide, by decide, by decide, by decide, rfl, rfl⟩
theorem skm_G : nl (coreV (skUG.sig SgD.zero)) = skMG := (core_nl skUG skp_G).trans (by decide +kernel)
theorem skl_G : skMG.length = 86 := by decide +kernel
theorem sks_G : actSignV (keyA 0) skUG = skAG := sign_lit sk_0 (by decide +kernel) skm_G (by rw [skl_G]; decide) (K := 1956320867886202572) (R := 2146189712212286351) (by decide +kernel) (by decide +kernel) (by decide +kernel) (by decide +kernel)
def skDG : ByteArray := ⟨#[124, 153, 73, 120, 206, 179, 255, 132, 164, 245, 44, 158, 3, 19, 188, 230, 64, 145, 178, 5, 5, 137, 208, 173, 126, 80, 55, 188, 1, 101, 135, 102]⟩
theorem skr_G : rightB skAG = true := by decide +kernel
theorem skd_G : digV skAG = skDG := dig_lit skr_G ((congrArg nl (core_sig skUG _ _)).trans skm_G) (by rw [skl_G]; decide) (by rw [skl_G]; decide) (E := 1607610893585009987) (G := 276096347596885687) rfl rfl (by decide +kernel)
def skw2 : WishD := ⟨0, 8, 1, 0, ⟨#[]⟩, 0⟩
theorem skt_G : draftW skC0 skw2 [skDF] = skUG := (draftW_t (by decide) (j := 1) (by decide) skid_1).trans rfl
def skC0G : ChainD := { skC0 with acts := ⟨none, 2, 0⟩, actsL := [skAB0, skAG], prev := skDG }
theorem skst_2 : toldS ([skC0, skC1F, skC2, skC3], [skDF]) skw2 = ([skC0G, skC1F, skC2, skC3], [skDF, skDG]) := (step_lit (cs := [skC0, skC1F, skC2, skC3]) (ks := [skDF]) (w := skw2) (c := skC0) (i := 0) (by decide) rfl skt_G sks_G (by decide +kernel) skd_G).trans rfl
theorem skto_2 : toldV [skw1, skw2] = ([skC0G, skC1F, skC2, skC3], [skDF, skDG]) := by
  rw [toldV, skbeg]
  simp only [List.foldl_cons, List.foldl_nil, skst_1, skst_2]
def skUK : ActD := { ActD.zero with author := skI0, seq := 2, kind := 10, prev := skDG, target := skI1 }
def skAK : ActD := skUK.sig ⟨((1155347132525297685 : Nat) : Int), ((617111068573586018 : Nat) : Int)⟩
def skMK : List Nat := [3, 97, 99, 116, 16, 54, 100, 51, 52, 53, 98, 52, 101, 53, 101, 102, 54, 97, 101, 49, 48, 2, 32, 124, 153, 73, 120, 206, 179, 255, 132, 164, 245, 44, 158, 3, 19, 188, 230, 64, 145, 178, 5, 5, 137, 208, 173, 126, 80, 55, 188, 1, 101, 135, 102, 10, 0, 0, 16, 97, 98, 99, 97, 98, 51, 54, 51, 51, 52, 57, 52, 50, 100, 102, 55, 0, 0, 0, 0, 0, 0, 0, 0, 0, 0, 0]
theorem skp_K : skUK.Pos := ⟨by decide, by decide, by decide, by decide, by decide, by decide, by decide, rfl, rfl⟩
theorem skm_K : nl (coreV (skUK.sig SgD.zero)) = skMK := (core_nl skUK skp_K).trans (by decide +kernel)
theorem skl_K : skMK.length = 86 := by decide +kernel
theorem sks_K : actSignV (keyA 0) skUK = skAK := sign_lit sk_0 (by decide +kernel) skm_K (by rw [skl_K]; decide) (K := 887036382199555643) (R := 1234568728457237130) (by decide +kernel) (by decide +kernel) (by decide +kernel) (by decide +kernel)
def skDK : ByteArray := ⟨#[94, 114, 115, 28, 93, 255, 158, 209, 233, 164, 139, 249, 153, 87, 106, 171, 225, 185, 126, 239, 141, 185, 173, 90, 250, 127, 176, 198, 100, 74, 186, 90]⟩
theorem skr_K : rightB skAK = true := by decide +kernel
theorem skd_K : digV skAK = skDK := dig_lit skr_K ((congrArg nl (core_sig skUK _ _)).trans skm_K) (by rw [skl_K]; decide) (by rw [skl_K]; decide) (E := 1155347132525297685) (G := 617111068573586018) rfl rfl (by decide +kernel)
def skw3 : WishD := ⟨0, 10, 1, 0, ⟨#[]⟩, 0⟩
theorem skt_K : draftW skC0G skw3 [skDF, skDG] = skUK := (draftW_t (by decide) (j := 1) (by decide) skid_1).trans rfl
def skC0K : ChainD := { skC0G with acts := ⟨none, 3, 0⟩, actsL := [skAB0, skAG, skAK], prev := skDK }
theorem skst_3 : toldS ([skC0G, skC1F, skC2, skC3], [skDF, skDG]) skw3 = ([skC0K, skC1F, skC2, skC3], [skDF, skDG, skDK]) := (step_lit (cs := [skC0G, skC1F, skC2, skC3]) (ks := [skDF, skDG]) (w := skw3) (c := skC0G) (i := 0) (by decide) rfl skt_K sks_K (by decide +kernel) skd_K).trans rfl
theorem skto_3 : toldV [skw1, skw2, skw3] = ([skC0K, skC1F, skC2, skC3], [skDF, skDG, skDK]) := by
  rw [toldV, skbeg]
  simp only [List.foldl_cons, List.foldl_nil, skst_1, skst_2, skst_3]
def skUV : ActD := { ActD.zero with author := skI0, seq := 3, kind := 6, prev := skDK, object := skDK }
def skAV : ActD := skUV.sig ⟨((2159987818118318437 : Nat) : Int), ((1179804809578177102 : Nat) : Int)⟩
def skMV : List Nat := [3, 97, 99, 116, 16, 54, 100, 51, 52, 53, 98, 52, 101, 53, 101, 102, 54, 97, 101, 49, 48, 3, 32, 94, 114, 115, 28, 93, 255, 158, 209, 233, 164, 139, 249, 153, 87, 106, 171, 225, 185, 126, 239, 141, 185, 173, 90, 250, 127, 176, 198, 100, 74, 186, 90, 6, 0, 32, 94, 114, 115, 28, 93, 255, 158, 209, 233, 164, 139, 249, 153, 87, 106, 171, 225, 185, 126, 239, 141, 185, 173, 90, 250, 127, 176, 198, 100, 74, 186, 90, 0, 0, 0, 0, 0, 0, 0, 0, 0, 0, 0, 0]
theorem skp_V : skUV.Pos := ⟨by decide, by decide, by decide, by decide, by decide, by decide, by decide, rfl, rfl⟩
theorem skm_V : nl (coreV (skUV.sig SgD.zero)) = skMV := (core_nl skUV skp_V).trans (by decide +kernel)
theorem skl_V : skMV.length = 102 := by decide +kernel
theorem sks_V : actSignV (keyA 0) skUV = skAV := sign_lit sk_0 (by decide +kernel) skm_V (by rw [skl_V]; decide) (K := 1919761841356341887) (R := 653737719171607722) (by decide +kernel) (by decide +kernel) (by decide +kernel) (by decide +kernel)
def skDV : ByteArray := ⟨#[35, 172, 29, 170, 252, 35, 21, 246, 124, 20, 131, 224, 183, 94, 114, 156, 13, 198, 137, 124, 76, 68, 19, 100, 131, 203, 115, 143, 79, 192, 187, 219]⟩
theorem skr_V : rightB skAV = true := by decide +kernel
theorem skd_V : digV skAV = skDV := dig_lit skr_V ((congrArg nl (core_sig skUV _ _)).trans skm_V) (by rw [skl_V]; decide) (by rw [skl_V]; decide) (E := 2159987818118318437) (G := 1179804809578177102) rfl rfl (by decide +kernel)
def skw4 : WishD := ⟨0, 6, 0, 2, ⟨#[]⟩, 0⟩
theorem skt_V : draftW skC0K skw4 [skDF, skDG, skDK] = skUV := (draftW_u (by decide) (j := 2) (by decide) rfl).trans rfl
theorem skx_V : idxV [skAB0, skAG, skAK] skDK = some 2 := by
  simp only [idxV, List.findIdx?_cons, skd_B0, skd_G, skd_K]
  decide +kernel
def skC0V : ChainD := { skC0K with acts := ⟨none, 4, 0⟩, actsL := [skAB0, skAG, skAK, skAV], prev := skDV }
theorem skst_4 : toldS ([skC0K, skC1F, skC2, skC3], [skDF, skDG, skDK]) skw4 = ([skC0V, skC1F, skC2, skC3], [skDF, skDG, skDK, skDV]) := (step_lit (cs := [skC0K, skC1F, skC2, skC3]) (ks := [skDF, skDG, skDK]) (w := skw4) (c := skC0K) (i := 0) (by decide) rfl skt_V sks_V (by
    show fitsV skC0K skAV (idxV [skAB0, skAG, skAK] skDK) = true
    rw [skx_V]
    decide +kernel) skd_V).trans rfl
theorem skto_4 : toldV [skw1, skw2, skw3, skw4] = ([skC0V, skC1F, skC2, skC3], [skDF, skDG, skDK, skDV]) := by
  rw [toldV, skbeg]
  simp only [List.foldl_cons, List.foldl_nil, skst_1, skst_2, skst_3, skst_4]
def skUR : ActD := { ActD.zero with author := skI0, seq := 4, kind := 8, prev := skDV, target := skI1 }
def skAR : ActD := skUR.sig ⟨((1141575972452177901 : Nat) : Int), ((994717534609252207 : Nat) : Int)⟩
def skMR : List Nat := [3, 97, 99, 116, 16, 54, 100, 51, 52, 53, 98, 52, 101, 53, 101, 102, 54, 97, 101, 49, 48, 4, 32, 35, 172, 29, 170, 252, 35, 21, 246, 124, 20, 131, 224, 183, 94, 114, 156, 13, 198, 137, 124, 76, 68, 19, 100, 131, 203, 115, 143, 79, 192, 187, 219, 8, 0, 0, 16, 97, 98, 99, 97, 98, 51, 54, 51, 51, 52, 57, 52, 50, 100, 102, 55, 0, 0, 0, 0, 0, 0, 0, 0, 0, 0, 0]
theorem skp_R : skUR.Pos := ⟨by decide, by decide, by decide, by decide, by decide, by decide, by decide, rfl, rfl⟩
theorem skm_R : nl (coreV (skUR.sig SgD.zero)) = skMR := (core_nl skUR skp_R).trans (by decide +kernel)
theorem skl_R : skMR.length = 86 := by decide +kernel
theorem sks_R : actSignV (keyA 0) skUR = skAR := sign_lit sk_0 (by decide +kernel) skm_R (by rw [skl_R]; decide) (K := 364870733772657112) (R := 1123468578331895705) (by decide +kernel) (by decide +kernel) (by decide +kernel) (by decide +kernel)
def skDR : ByteArray := ⟨#[144, 41, 9, 229, 176, 65, 242, 131, 143, 254, 198, 97, 156, 228, 183, 202, 22, 123, 86, 173, 198, 76, 7, 136, 220, 242, 111, 229, 139, 208, 45, 154]⟩
theorem skr_R : rightB skAR = true := by decide +kernel
theorem skd_R : digV skAR = skDR := dig_lit skr_R ((congrArg nl (core_sig skUR _ _)).trans skm_R) (by rw [skl_R]; decide) (by rw [skl_R]; decide) (E := 1141575972452177901) (G := 994717534609252207) rfl rfl (by decide +kernel)
def skw5 : WishD := ⟨0, 8, 1, 0, ⟨#[]⟩, 0⟩
theorem skt_R : draftW skC0V skw5 [skDF, skDG, skDK, skDV] = skUR := (draftW_t (by decide) (j := 1) (by decide) skid_1).trans rfl
def skC0R : ChainD := { skC0V with acts := ⟨none, 5, 0⟩, actsL := [skAB0, skAG, skAK, skAV, skAR], prev := skDR }
theorem skst_5 : toldS ([skC0V, skC1F, skC2, skC3], [skDF, skDG, skDK, skDV]) skw5 = ([skC0R, skC1F, skC2, skC3], [skDF, skDG, skDK, skDV, skDR]) := (step_lit (cs := [skC0V, skC1F, skC2, skC3]) (ks := [skDF, skDG, skDK, skDV]) (w := skw5) (c := skC0V) (i := 0) (by decide) rfl skt_R sks_R (by decide +kernel) skd_R).trans rfl
theorem skto_5 : toldV [skw1, skw2, skw3, skw4, skw5] = ([skC0R, skC1F, skC2, skC3], [skDF, skDG, skDK, skDV, skDR]) := by
  rw [toldV, skbeg]
  simp only [List.foldl_cons, List.foldl_nil, skst_1, skst_2, skst_3, skst_4, skst_5]
theorem skok_1 : ∀ n x, ([skw1] : List WishD)[n]? = some x → WishOk x (toldV (List.take n [skw1])).2 := by
  intro n x h
  rcases n with _|_
  · simp only [List.getElem?_cons_zero, List.getElem?_cons_succ, Option.some.injEq] at h
    subst h
    exact .inl (by decide)
  · simp at h
theorem sktm_1 : ∀ x ∈ ([skw1] : List WishD), x.time < 9223372036854775808 := by
  intro x hx
  simp only [List.mem_cons, List.not_mem_nil, or_false] at hx
  rcases hx with rfl <;> decide
theorem skok_2 : ∀ n x, ([skw1, skw2] : List WishD)[n]? = some x → WishOk x (toldV (List.take n [skw1, skw2])).2 := by
  intro n x h
  rcases n with _|_|_
  · simp only [List.getElem?_cons_zero, List.getElem?_cons_succ, Option.some.injEq] at h
    subst h
    exact .inl (by decide)
  · simp only [List.getElem?_cons_zero, List.getElem?_cons_succ, Option.some.injEq] at h
    subst h
    exact .inl (by decide)
  · simp at h
theorem sktm_2 : ∀ x ∈ ([skw1, skw2] : List WishD), x.time < 9223372036854775808 := by
  intro x hx
  simp only [List.mem_cons, List.not_mem_nil, or_false] at hx
  rcases hx with rfl | rfl <;> decide
theorem skok_3 : ∀ n x, ([skw1, skw2, skw3] : List WishD)[n]? = some x → WishOk x (toldV (List.take n [skw1, skw2, skw3])).2 := by
  intro n x h
  rcases n with _|_|_|_
  · simp only [List.getElem?_cons_zero, List.getElem?_cons_succ, Option.some.injEq] at h
    subst h
    exact .inl (by decide)
  · simp only [List.getElem?_cons_zero, List.getElem?_cons_succ, Option.some.injEq] at h
    subst h
    exact .inl (by decide)
  · simp only [List.getElem?_cons_zero, List.getElem?_cons_succ, Option.some.injEq] at h
    subst h
    exact .inl (by decide)
  · simp at h
theorem sktm_3 : ∀ x ∈ ([skw1, skw2, skw3] : List WishD), x.time < 9223372036854775808 := by
  intro x hx
  simp only [List.mem_cons, List.not_mem_nil, or_false] at hx
  rcases hx with rfl | rfl | rfl <;> decide
theorem skok_4 : ∀ n x, ([skw1, skw2, skw3, skw4] : List WishD)[n]? = some x → WishOk x (toldV (List.take n [skw1, skw2, skw3, skw4])).2 := by
  intro n x h
  rcases n with _|_|_|_|_
  · simp only [List.getElem?_cons_zero, List.getElem?_cons_succ, Option.some.injEq] at h
    subst h
    exact .inl (by decide)
  · simp only [List.getElem?_cons_zero, List.getElem?_cons_succ, Option.some.injEq] at h
    subst h
    exact .inl (by decide)
  · simp only [List.getElem?_cons_zero, List.getElem?_cons_succ, Option.some.injEq] at h
    subst h
    exact .inl (by decide)
  · simp only [List.getElem?_cons_zero, List.getElem?_cons_succ, Option.some.injEq] at h
    subst h
    refine .inr ⟨rfl, ?_⟩
    show 0 < (toldV [skw1, skw2, skw3]).2.length
    rw [skto_3]
    decide
  · simp at h
theorem sktm_4 : ∀ x ∈ ([skw1, skw2, skw3, skw4] : List WishD), x.time < 9223372036854775808 := by
  intro x hx
  simp only [List.mem_cons, List.not_mem_nil, or_false] at hx
  rcases hx with rfl | rfl | rfl | rfl <;> decide
theorem skok_5 : ∀ n x, ([skw1, skw2, skw3, skw4, skw5] : List WishD)[n]? = some x → WishOk x (toldV (List.take n [skw1, skw2, skw3, skw4, skw5])).2 := by
  intro n x h
  rcases n with _|_|_|_|_|_
  · simp only [List.getElem?_cons_zero, List.getElem?_cons_succ, Option.some.injEq] at h
    subst h
    exact .inl (by decide)
  · simp only [List.getElem?_cons_zero, List.getElem?_cons_succ, Option.some.injEq] at h
    subst h
    exact .inl (by decide)
  · simp only [List.getElem?_cons_zero, List.getElem?_cons_succ, Option.some.injEq] at h
    subst h
    exact .inl (by decide)
  · simp only [List.getElem?_cons_zero, List.getElem?_cons_succ, Option.some.injEq] at h
    subst h
    refine .inr ⟨rfl, ?_⟩
    show 0 < (toldV [skw1, skw2, skw3]).2.length
    rw [skto_3]
    decide
  · simp only [List.getElem?_cons_zero, List.getElem?_cons_succ, Option.some.injEq] at h
    subst h
    exact .inl (by decide)
  · simp at h
theorem sktm_5 : ∀ x ∈ ([skw1, skw2, skw3, skw4, skw5] : List WishD), x.time < 9223372036854775808 := by
  intro x hx
  simp only [List.mem_cons, List.not_mem_nil, or_false] at hx
  rcases hx with rfl | rfl | rfl | rfl | rfl <;> decide
theorem stepT_undo {l : List ActD} {i j : Nat} {t : TieS} {x : ActD} (hk : x.kind = 6) (hi : idxV l x.object = some j) : stepT l i t x = bif decide ((j : Int) < (i : Int)) then undoT t (l.getD j ActD.zero) else t := by
  rw [stepT, hk, hi]
  rfl
theorem tieF_step {l : List ActD} {i : Nat} {t : TieS} {x : ActD} (ht : tieF l i = t) (hx : l.getD i ActD.zero = x) : tieF l (i + 1) = stepT l i t x := by
  rw [tieF, ht, hx]
theorem tieC_lit {l : List ChainD} {id : ByteArray} {c : ChainD} (hc : chainC l id = c) {n : Nat} (hn : limN (c.acts.n : Int) c.actsL.length = n) {t : TieS} (ht : tieF c.actsL n = t) : tieC l id = t := by
  rw [tieC, hc, tieV, hn, ht]
theorem fersF_step {l : List ChainD} {id : ByteArray} {i : Nat} {c : ChainD} (hc : l.getD i ChainD.zero = c) {b : Bool} (h : followsV l c.id id = b) {ks : List ByteArray} (hk : fersF l id i = ks) : fersF l id (i + 1) = bif b then sput ks c.id else ks := by
  rw [fersF, hc, h, hk]
theorem fingF_step {l : List ChainD} {id : ByteArray} {m : List ByteArray} {i : Nat} {c : ByteArray} (hc : m.getD i .empty = c) {b : Bool} (h : followsV l id c = b) {ks : List ByteArray} (hk : fingF l id m i = ks) : fingF l id m (i + 1) = bif b then sput ks c else ks := by
  rw [fingF, hc, h, hk]
theorem sortB_one (x : ByteArray) : sortB [x] = [x] := by
  simp [sortB, lb_bl]
theorem skxx_4 : idxV [skAB0, skAG, skAK, skAV] skAV.object = some 2 := by
  show idxV [skAB0, skAG, skAK, skAV] skDK = some 2
  simp only [idxV, List.findIdx?_cons, skd_B0, skd_G, skd_K, skd_V]
  decide +kernel
theorem sk3_4 : tieF [skAB0, skAG, skAK, skAV] 3 = ⟨[], [], [skI1], []⟩ := by kernel_rfl
theorem sk4_4 : tieF [skAB0, skAG, skAK, skAV] 4 = ⟨[], [], [], []⟩ := ((tieF_step (i := 3) (x := skAV) sk3_4 rfl).trans (stepT_undo rfl skxx_4)).trans (by kernel_rfl)
theorem skt0_4 : tieC [skC0V, skC1F, skC2, skC3] skI0 = ⟨[], [], [], []⟩ := tieC_lit (c := skC0V) (by kernel_rfl) (n := 4) (by kernel_rfl) sk4_4
theorem skt1_4 : tieC [skC0V, skC1F, skC2, skC3] skI1 = ⟨[skI0], [], [], []⟩ := tieC_lit (c := skC1F) (by kernel_rfl) (n := 2) (by kernel_rfl) (by kernel_rfl)
theorem skxx_5 : idxV [skAB0, skAG, skAK, skAV, skAR] skAV.object = some 2 := by
  show idxV [skAB0, skAG, skAK, skAV, skAR] skDK = some 2
  simp only [idxV, List.findIdx?_cons, skd_B0, skd_G, skd_K, skd_V, skd_R]
  decide +kernel
theorem sk3_5 : tieF [skAB0, skAG, skAK, skAV, skAR] 3 = ⟨[], [], [skI1], []⟩ := by kernel_rfl
theorem sk4_5 : tieF [skAB0, skAG, skAK, skAV, skAR] 4 = ⟨[], [], [], []⟩ := ((tieF_step (i := 3) (x := skAV) sk3_5 rfl).trans (stepT_undo rfl skxx_5)).trans (by kernel_rfl)
theorem sk5_5 : tieF [skAB0, skAG, skAK, skAV, skAR] 5 = ⟨[], [skI1], [], []⟩ := (tieF_step (i := 4) (x := skAR) sk4_5 rfl).trans (by kernel_rfl)
theorem skt0_5 : tieC [skC0R, skC1F, skC2, skC3] skI0 = ⟨[], [skI1], [], []⟩ := tieC_lit (c := skC0R) (by kernel_rfl) (n := 5) (by kernel_rfl) sk5_5
theorem skt1_5 : tieC [skC0R, skC1F, skC2, skC3] skI1 = ⟨[skI0], [], [], []⟩ := tieC_lit (c := skC1F) (by kernel_rfl) (n := 2) (by kernel_rfl) (by kernel_rfl)
theorem skt2_5 : tieC [skC0R, skC1F, skC2, skC3] skI2 = ⟨[], [], [], []⟩ := tieC_lit (c := skC2) (by kernel_rfl) (n := 1) (by kernel_rfl) (by kernel_rfl)
theorem skt3_5 : tieC [skC0R, skC1F, skC2, skC3] skI3 = ⟨[], [], [], []⟩ := tieC_lit (c := skC3) (by kernel_rfl) (n := 1) (by kernel_rfl) (by kernel_rfl)
theorem skq_1 {L : List ChainD} (h : L.map ChainD.can = (toldV [skw1]).1) : followsV L (idA21 1) (idA21 0) = false := by
  rw [← followsV_can, h, skto_1, skid_0, skid_1]
  decide +kernel
theorem skq_2 {L : List ChainD} (h : L.map ChainD.can = (toldV [skw1, skw2]).1) : followsV L (idA21 1) (idA21 0) = true := by
  rw [← followsV_can, h, skto_2, skid_0, skid_1]
  decide +kernel
theorem skq_3 {L : List ChainD} (h : L.map ChainD.can = (toldV [skw1, skw2]).1) : followsV L (idA21 0) (idA21 1) = false := by
  rw [← followsV_can, h, skto_2, skid_0, skid_1]
  decide +kernel
theorem skq_4 {L : List ChainD} (h : L.map ChainD.can = (toldV [skw1, skw2, skw3]).1) : followsV L (idA21 1) (idA21 0) = false := by
  rw [← followsV_can, h, skto_3, skid_0, skid_1]
  decide +kernel
theorem skq_5 {L : List ChainD} (h : L.map ChainD.can = (toldV [skw1, skw2, skw3]).1) : blockedV L (idA21 1) (idA21 0) = true := by
  rw [← blockedV_can, h, skto_3, skid_0, skid_1]
  decide +kernel
theorem skq_6 {L : List ChainD} (h : L.map ChainD.can = (toldV [skw1, skw2, skw3, skw4]).1) : followsV L (idA21 1) (idA21 0) = false := by
  rw [← followsV_can, h, skto_4, skid_0, skid_1]
  show followsV [skC0V, skC1F, skC2, skC3] skI1 skI0 = false
  rw [followsV, skt1_4, skt0_4]
  decide +kernel
theorem skq_7 {L : List ChainD} (h : L.map ChainD.can = (toldV [skw1, skw2, skw3, skw4]).1) : blockedV L (idA21 0) (idA21 1) = false := by
  rw [← blockedV_can, h, skto_4, skid_0, skid_1]
  show blockedV [skC0V, skC1F, skC2, skC3] skI0 skI1 = false
  rw [blockedV, skt0_4, skt1_4]
  decide +kernel
theorem skq_8 {L : List ChainD} (h : L.map ChainD.can = (toldV [skw1, skw2, skw3, skw4, skw5]).1) : followsV L (idA21 1) (idA21 0) = true := by
  rw [← followsV_can, h, skto_5, skid_0, skid_1]
  show followsV [skC0R, skC1F, skC2, skC3] skI1 skI0 = true
  rw [followsV, skt1_5, skt0_5]
  decide +kernel
theorem skf_0 : followsV [skC0R, skC1F, skC2, skC3] skI0 skI0 = false := by
  rw [followsV, skt0_5]
  decide +kernel
theorem skf_1 : followsV [skC0R, skC1F, skC2, skC3] skI1 skI0 = true := by
  rw [followsV, skt1_5, skt0_5]
  decide +kernel
theorem skf_2 : followsV [skC0R, skC1F, skC2, skC3] skI2 skI0 = false := by
  rw [followsV, skt2_5, skt0_5]
  decide +kernel
theorem skf_3 : followsV [skC0R, skC1F, skC2, skC3] skI3 skI0 = false := by
  rw [followsV, skt3_5, skt0_5]
  decide +kernel
theorem skers : fersF [skC0R, skC1F, skC2, skC3] skI0 4 = [skI1] := (fersF_step (c := skC3) rfl skf_3 ((fersF_step (c := skC2) rfl skf_2 ((fersF_step (c := skC1F) rfl skf_1 ((fersF_step (c := skC0R) rfl skf_0 rfl).trans rfl)).trans (by kernel_rfl))).trans rfl)).trans rfl
theorem skq_9 {L : List ChainD} (h : L.map ChainD.can = (toldV [skw1, skw2, skw3, skw4, skw5]).1) : (fersV L (idA21 0)).length = 1 := by
  rw [← fersV_can, h, skto_5, skid_0]
  show (sortB (fersF [skC0R, skC1F, skC2, skC3] skI0 4)).length = 1
  rw [skers, sortB_one]
  rfl
theorem sking : fingF [skC0R, skC1F, skC2, skC3] skI1 [skI0] 1 = [skI0] := (fingF_step (c := skI0) rfl skf_1 rfl).trans rfl
theorem skq_10 {L : List ChainD} (h : L.map ChainD.can = (toldV [skw1, skw2, skw3, skw4, skw5]).1) : (fingV L (idA21 1)).length = 1 := by
  rw [← fingV_can, h, skto_5, skid_1]
  show (fingV [skC0R, skC1F, skC2, skC3] skI1).length = 1
  rw [fingV, skt1_5]
  show (sortB (fingF [skC0R, skC1F, skC2, skC3] skI1 (sortB [skI0]) (sortB [skI0]).length)).length = 1
  rw [sortB_one]
  show (sortB (fingF [skC0R, skC1F, skC2, skC3] skI1 [skI0] 1)).length = 1
  rw [sking, sortB_one]
  rfl
end Go.Proofs.YtepckpofhegmiaaGreatDoor
