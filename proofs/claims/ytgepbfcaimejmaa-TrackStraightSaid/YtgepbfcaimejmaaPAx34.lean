-- Printed by a program of this session (wip/tools), out of the translation: Lean checks it.
import Derived.Test.YtgepbfcaimejmaaPAx0
import Derived.Test.YtgepbfcaimejmaaPAx1
import Derived.Test.YtgepbfcaimejmaaPAx9
import Derived.Test.YtgepbfcaimejmaaPAx21
import Derived.Test.YtgepbfcaimejmaaPAx24
import Derived.Test.YtgepbfcaimejmaaPAx25
import Derived.Test.YtgepbfcaimejmaaPAx31
import Derived.Test.YtgepbfcaimejmaaFnval
import Derived.Test.YtgepbfcaimejmaaPAx32
import Derived.Test.YtgepbfcaimejmaaPAx33
namespace Go.Proofs.Ytgepbfcaimejmaa.PA
open Go.RowKit Go.Proofs.YtgepbfcaimejmaaW.PrintWords Go.Proofs.YtgepbfcaimejmaaW.PrintLast Go.Proofs.YtgepbfcaimejmaaW.PrintMore
attribute [local go_sem] max2_int min2_int max_two min_two max_three min_three max_four min_four   -- for this text's walks alone
set_option linter.unusedVariables false
set_option linter.unusedSimpArgs false

attribute [local go_sem high] eqA24
/-! ### croftlaw46_TrackStraight: function 9 -/
set_option maxHeartbeats 8000000 in
set_option maxRecDepth 100000 in
theorem croftlaw46_TrackStraight.left1 : croftlaw46_TrackStraight.part.2.1 := by
  intro k P0_ A0 c0 l0 r w hs0 hu24 HT A2 Qz0_ w5 HO0 HBz1_ wcz2_ u9 u10 u11 u12 u13 u14 u15 u16z3_ u17z4_ u18z5_ u19z6_ u20z7_ u21z8_ u22z9_ u23z10_ u24z11_ u25z12_ u26z13_ u27z14_ u28z15_ u29z16_ u30z17_ u31z18_ u32z19_ u33z20_ u34z21_ u35z22_ u36z23_ u37z24_ u38z25_ u39z26_ u40z27_ u41z28_ u42z29_ u43z30_ u44z31_ u45z32_ u46z33_ u47z34_ u48z35_ u49z36_ u50z37_ u51z38_ u52z39_ u53z40_ u54z41_ u55z42_ u56z43_ u57z44_ u58z45_ u59z46_ u60z47_ u61z48_ u62z49_ u63z50_ u64z51_ u65z52_ u66z53_ u67z54_ u68z55_ u69z56_ u70z57_ u71z58_ u72z59_ u73z60_ u74z61_ u75z62_ u76z63_ u77z64_ u78z65_ u79z66_ u80z67_ u81z68_ u82z69_ u83z70_ u84z71_ u85z72_ u86z73_ u87z74_ u88z75_ u89z76_ u90z77_ u91z78_ u92z79_ u93z80_ u94z81_ u95z82_ u96z83_ u97z84_ u98z85_ u99z86_ u100z87_ u101z88_ u102z89_ u103z90_ u104 u105 u106 u107 u108 u109 u110 u111 u112 u113 u114 u115 u116 u117 u118 u119 u120 u121 u122 u123 u124 u125 u126 u127 u128 u129 u130 u131 u132 u133 u134 u135 u136 u137 u138 u139 u140 u141 u142 u143 u144 u145 u146 u147 u148 u149 u150 u151 u152 u153 x0_3 HBz91_ kj3 HJ3 Kz92_ az93_ wr u5 u16z94_ u17z95_ u18z96_ u19z97_ u20z98_ u21z99_ u22z100_ u23z101_ u24z102_ u25z103_ u26z104_ u27z105_ u28z106_ u29z107_ u30z108_ u31z109_ u32z110_ u33z111_ u34z112_ u35z113_ u36z114_ u37z115_ u38z116_ u39z117_ u40z118_ u41z119_ u42z120_ u43z121_ u44z122_ u45z123_ u46z124_ u47z125_ u48z126_ u49z127_ u50z128_ u51z129_ u52z130_ u53z131_ u54z132_ u55z133_ u56z134_ u57z135_ u58z136_ u59z137_ u60z138_ u61z139_ u62z140_ u63z141_ u64z142_ u65z143_ u66z144_ u67z145_ u68z146_ u69z147_ u70z148_ u71z149_ u72z150_ u73z151_ u74z152_ u75z153_ u76z154_ u77z155_ u78z156_ u79z157_ u80z158_ u81z159_ u82z160_ u83z161_ u84z162_ u85z163_ u86z164_ u87z165_ u88z166_ u89z167_ u90z168_ u91z169_ u92z170_ u93z171_ u94z172_ u95z173_ u96z174_ u97z175_ u98z176_ u99z177_ u100z178_ u101z179_ u102z180_ u103z181_ Jz182_ Kz183_ x3_2 x4_2 HBz184_ k2 az185_ HK2 c9b0 Ao11 co11 HO_0z186_ az187_ Ao12 co12 HO_3z188_ HO_0z189_ Kz190_ az191_ wcz192_ u16z193_ u17z194_ u18z195_ u19z196_ u20z197_ u21z198_ u22z199_ u23z200_ u24z201_ u25z202_ u26z203_ u27z204_ u28z205_ u29z206_ u30z207_ u31z208_ u32z209_ u33z210_ u34z211_ u35z212_ u36z213_ u37z214_ u38z215_ u39z216_ u40z217_ u41z218_ u42z219_ u43z220_ u44z221_ u45z222_ u46z223_ u47z224_ u48z225_ u49z226_ u50z227_ u51z228_ u52z229_ u54z230_ u55z231_ u56z232_ u57z233_ u58z234_ u59z235_ u60z236_ u61z237_ u62z238_ u63z239_ u64z240_ u65z241_ u66z242_ u67z243_ u68z244_ u69z245_ u70z246_ u71z247_ u72z248_ u73z249_ u74z250_ u75z251_ u76z252_ u77z253_ u78z254_ u79z255_ u80z256_ u81z257_ u82z258_ u83z259_ u84z260_ u85z261_ u86z262_ u87z263_ u88z264_ u89z265_ u90z266_ u91z267_ u92z268_ u93z269_ u94z270_ u95z271_ u96z272_ u97z273_ u98z274_ u99z275_ u100z276_ u101z277_ u102z278_ u103z279_ HO_0 HO_3 HB kj9 HJ9 HC23 Kz280_ az281_ Kz282_ az283_ wc u16 u17 u18 u19 u20 u21 u22 u23 u24 u25 u26 u27 u28 u29 u30 u31 u32 u33 u34 u35 u36 u37 u38 u39 u40 u41 u42 u43 u44 u45 u46 u47 u48 u49 u50 u51 u52 u53 u54 u55 u56 u57 u58 u59 u60 u61 u62 u63 u64 u65 u66 u67 u68 u69 u70 u71 u72 u73 u74 u75 u76 u77 u78 u79 u80 u81 u82 u83 u84 u85 u86 u87 u88 u89 u90 u91 u92 u93 u94 u95 u96 u97 u98 u99 u100 u101 u102 u103 hcut
  clear HC23
  try clear c1
  try clear c2
  try clear p2
  try clear c3
  try clear p5
  try clear q5
  try clear hx5
  try clear c14
  try clear c24
  try clear c24b0
  try clear c24b1
  try clear c26
  try clear c27
  try clear c29
  try clear c30
  try clear c31
  try clear c32
  try clear c34
  try clear c34b0
  try clear c34b1
  try clear hx552_0
  try clear hx552_1
  try clear hx552_2
  try clear hx552_3
  try clear hx553_0
  try clear hx553_1
  try clear hx553_2
  try clear hx553_3
  try clear hx554_0
  try clear hx554_1
  try clear hx554_2
  try clear hx554_3
  try clear p552
  try clear p553
  try clear p554
  try clear q552
  try clear q553
  try clear q554
  obtain ⟨kq, x90_22, rfl, HA, HJ22, HO_0, HO_3, HB⟩ := hcut
  cases kq with
  | zero => exact absurd HA.out (by simp [croftlaw46_TrackStraight.j3])
  | succ kj22 =>
    have H := HA.out
    clear HA
    simp only [croftlaw46_TrackStraight.j3] at H
    by_cases c42 : x90_22 = true
    · subst c42
      have H1 : (if 0 ≤ (wrap64 ((x3_2.length : Int) - 1)) then (if (wrap64 ((x3_2.length : Int) - 1)) ≤ (x3_2.length : Int) then ((some (x3_2.take ((wrap64 ((x3_2.length : Int) - 1)) : Int).toNat : List (S24))).bind fun y560 => ((some (([] : List (S24)) : List (S24))).bind fun y563 => (if y563.length + y560.length < 4398046511104 then ((some (y563 ++ y560 : List (S24))).bind fun y566 => (if 0 ≤ x4_2 then (if x4_2 < (x0_3.length : Int) then ((some (([(⟨(rd_T24 x0_3 x4_2).f0, (rd_T24 x0_3 x4_2).f1, (rd_T24 x0_3 x4_2).f2, (rd_T24 x0_3 x4_2).f3⟩ : S24)] : List (S24)) : List (S24))).bind fun y570 => (if y566.length + y570.length < 4398046511104 then (croftlaw46_TrackStraight.l0 kj22 x0_3 (y566 ++ y570) (wrap64 (x4_2 + 1))) else (none))) else (none)) else (none))) else (none)))) else (none)) else (none)) = some r := by rw [if_pos rfl] at H; exact H
      clear H
      have H := H1
      clear H1
      obtain ⟨ji43, hji43⟩ : ∃ j_ : Int, (wrap64 ((x3_2.length : Int) - 1)) = j_ := ⟨_, rfl⟩
      replace H : (if 0 ≤ (ji43) then (if (ji43) ≤ (x3_2.length : Int) then ((some (x3_2.take ((ji43) : Int).toNat : List (S24))).bind fun y560 => ((some (([] : List (S24)) : List (S24))).bind fun y563 => (if y563.length + y560.length < 4398046511104 then ((some (y563 ++ y560 : List (S24))).bind fun y566 => (if 0 ≤ x4_2 then (if x4_2 < (x0_3.length : Int) then ((some (([(⟨(rd_T24 x0_3 x4_2).f0, (rd_T24 x0_3 x4_2).f1, (rd_T24 x0_3 x4_2).f2, (rd_T24 x0_3 x4_2).f3⟩ : S24)] : List (S24)) : List (S24))).bind fun y570 => (if y566.length + y570.length < 4398046511104 then (croftlaw46_TrackStraight.l0 kj22 x0_3 (y566 ++ y570) (wrap64 (x4_2 + 1))) else (none))) else (none)) else (none))) else (none)))) else (none)) else (none)) = some r := by first | (rw [hji43] at H; exact H) | (simp only [hji43] at H ⊢; exact H)
      have hji43w : (IntKind.i64.wrap ((x3_2.length : Int) - 1)) = ji43 := (i64_w _).trans hji43
      by_cases c44 : 0 ≤ (ji43)
      · rw [if_pos c44] at H
        have c44b0 := eq_true c44
        have c44b1 : decide (0 ≤ (ji43)) = true := decide_eq_true c44
        clear c44
        by_cases c45 : (ji43) ≤ (x3_2.length : Int)
        · rw [if_pos c45] at H
          have c45b0 := eq_true c45
          have c45b1 : decide ((ji43) ≤ (x3_2.length : Int)) = true := decide_eq_true c45
          clear c45
          obtain ⟨y560, hy560⟩ : ∃ y_ : List (S24), y_ = (x3_2.take ((ji43) : Int).toNat) := ⟨_, rfl⟩
          replace H : ((some (([] : List (S24)) : List (S24))).bind fun y563 => (if y563.length + y560.length < 4398046511104 then ((some (y563 ++ y560 : List (S24))).bind fun y566 => (if 0 ≤ x4_2 then (if x4_2 < (x0_3.length : Int) then ((some (([(⟨(rd_T24 x0_3 x4_2).f0, (rd_T24 x0_3 x4_2).f1, (rd_T24 x0_3 x4_2).f2, (rd_T24 x0_3 x4_2).f3⟩ : S24)] : List (S24)) : List (S24))).bind fun y570 => (if y566.length + y570.length < 4398046511104 then (croftlaw46_TrackStraight.l0 kj22 x0_3 (y566 ++ y570) (wrap64 (x4_2 + 1))) else (none))) else (none)) else (none))) else (none))) = some r := by first | (rw [hy560]; with_reducible exact H) | (have H2_ := (Option.bind_some _ _).symm.trans H; rw [hy560]; with_reducible exact H2_) | (have H2_ := (Option.bind_some _ _).symm.trans H; with_reducible exact H2_) | with_reducible exact H | (rw [hy560]; exact H) | exact H
          have Ny560 := Aside0.mk hy560
          clear hy560
          obtain ⟨y563, hy563⟩ : ∃ y_ : List (S24), y_ = (([] : List (S24))) := ⟨_, rfl⟩
          replace H : (if y563.length + y560.length < 4398046511104 then ((some (y563 ++ y560 : List (S24))).bind fun y566 => (if 0 ≤ x4_2 then (if x4_2 < (x0_3.length : Int) then ((some (([(⟨(rd_T24 x0_3 x4_2).f0, (rd_T24 x0_3 x4_2).f1, (rd_T24 x0_3 x4_2).f2, (rd_T24 x0_3 x4_2).f3⟩ : S24)] : List (S24)) : List (S24))).bind fun y570 => (if y566.length + y570.length < 4398046511104 then (croftlaw46_TrackStraight.l0 kj22 x0_3 (y566 ++ y570) (wrap64 (x4_2 + 1))) else (none))) else (none)) else (none))) else (none)) = some r := by first | (rw [hy563]; with_reducible exact H) | (have H2_ := (Option.bind_some _ _).symm.trans H; rw [hy563]; with_reducible exact H2_) | (have H2_ := (Option.bind_some _ _).symm.trans H; with_reducible exact H2_) | with_reducible exact H | (rw [hy563]; exact H) | exact H
          have Ny563 := Aside0.mk hy563
          clear hy563
          by_cases c46 : y563.length + y560.length < 4398046511104
          · rw [if_pos c46] at H
            have LMc46 := Aside0.mk c46
            clear c46
            obtain ⟨y566, hy566⟩ : ∃ y_ : List (S24), y_ = (y563 ++ y560) := ⟨_, rfl⟩
            replace H : (if 0 ≤ x4_2 then (if x4_2 < (x0_3.length : Int) then ((some (([(⟨(rd_T24 x0_3 x4_2).f0, (rd_T24 x0_3 x4_2).f1, (rd_T24 x0_3 x4_2).f2, (rd_T24 x0_3 x4_2).f3⟩ : S24)] : List (S24)) : List (S24))).bind fun y570 => (if y566.length + y570.length < 4398046511104 then (croftlaw46_TrackStraight.l0 kj22 x0_3 (y566 ++ y570) (wrap64 (x4_2 + 1))) else (none))) else (none)) else (none)) = some r := by first | (rw [hy566]; with_reducible exact H) | (have H2_ := (Option.bind_some _ _).symm.trans H; rw [hy566]; with_reducible exact H2_) | (have H2_ := (Option.bind_some _ _).symm.trans H; with_reducible exact H2_) | with_reducible exact H | (rw [hy566]; exact H) | exact H
            have Ny566 := Aside0.mk hy566
            clear hy566
            by_cases c47 : 0 ≤ x4_2
            · rw [if_pos c47] at H
              have c47b0 : decide (0 ≤ x4_2) = true := decide_eq_true c47
              clear c47
              by_cases c48 : x4_2 < (x0_3.length : Int)
              · rw [if_pos c48] at H
                have c48b0 : decide (x4_2 < (x0_3.length : Int)) = true := decide_eq_true c48
                clear c48
                obtain ⟨y570, hy570⟩ : ∃ y_ : List (S24), y_ = (([(⟨(rd_T24 x0_3 x4_2).f0, (rd_T24 x0_3 x4_2).f1, (rd_T24 x0_3 x4_2).f2, (rd_T24 x0_3 x4_2).f3⟩ : S24)] : List (S24))) := ⟨_, rfl⟩
                replace H : (if y566.length + y570.length < 4398046511104 then (croftlaw46_TrackStraight.l0 kj22 x0_3 (y566 ++ y570) (wrap64 (x4_2 + 1))) else (none)) = some r := by first | (rw [hy570]; with_reducible exact H) | (have H2_ := (Option.bind_some _ _).symm.trans H; rw [hy570]; with_reducible exact H2_) | (have H2_ := (Option.bind_some _ _).symm.trans H; with_reducible exact H2_) | with_reducible exact H | (rw [hy570]; exact H) | exact H
                have Ny570 := Aside0.mk hy570
                clear hy570
                by_cases c49 : y566.length + y570.length < 4398046511104
                · rw [if_pos c49] at H
                  have LMc49 := Aside0.mk c49
                  clear c49
                  obtain ⟨y573, hy573⟩ : ∃ y_ : List (S24), y_ = (y566 ++ y570) := ⟨_, rfl⟩
                  replace H : (croftlaw46_TrackStraight.l0 kj22 x0_3 y573 (wrap64 (x4_2 + 1))) = some r := by first | (rw [hy573]; with_reducible exact H) | (have H2_ := (Option.bind_some _ _).symm.trans H; rw [hy573]; with_reducible exact H2_) | (have H2_ := (Option.bind_some _ _).symm.trans H; with_reducible exact H2_) | with_reducible exact H | (rw [hy573]; exact H) | exact H
                  have Ny573 := Aside0.mk hy573
                  clear hy573
                  have H' := Aside0.mk H
                  clear H
                  have q50 : ((ji43) : Int) ≤ ((x3_2.length : Int) : Int) := of_decide_eq_true (by first | (with_reducible assumption) | assumption)
                  obtain ⟨i050, hi050, _, hsz50, _⟩ := info_parts info24
                  have hcut50 := cut_to (P := Try.prog) 27 24 .i64 Try.underlying27 hi050 Ao12 x3_2.length co12 (ji43) (of_decide_eq_true (by first | (with_reducible assumption) | assumption)) q50 (Kd.R_reads' HO_3.out).2.1
                  have hr50 := Kd.R_take (m := ((ji43) : Int).toNat) HO_3.out (by omega)
                  have hy50 : y560.length = ((ji43) : Int).toNat := (by rw [Ny560.out, List.length_take]; omega)
                  rw [← Ny560.out] at hr50
                  rw [← hy50] at hr50 hcut50
                  clear hy50 hi050 hsz50 HO_3
                  have HO562 := Aside0.mk hr50
                  clear hr50
                  replace q50 := eq_true q50
                  try go_wp2
                  have n0_ := Aside0.mk (Kd.V_drew HO_0.out)
                  have n1_ := Aside0.mk (Kd.R_drew HO562.out)
                  have n2_ := Aside0.mk (below_drew1 HB.out)
                  clear HO_0
                  clear HO562
                  clear HB
                  have HO_0 := n0_
                  have HO562 := n1_
                  have HB := n2_
                  clear n0_ n1_ n2_
                  have p569 : 0 ≤ (x4_2 : Int) := of_decide_eq_true (by first | (with_reducible assumption) | assumption)
                  have q569 : x4_2 < (x0_3.length : Int) := of_decide_eq_true (by first | (with_reducible assumption) | assumption)
                  obtain ⟨ad569, e569, hx569_0, hx569_1, hx569_2, hx569_3⟩ := at_T24 (Kd.V_reads' HO_0.out).2.2 x4_2 p569 q569
                  cases e569
                  replace p569 := eq_true p569
                  replace q569 := eq_true q569
                  refine start_ (n := 10) (S := fun w' => w'.cell? (ad569.add ((x4_2).toNat * 4)) = some (.int .i64 ((rd_T24 x0_3 x4_2).f0)) ∧ w'.cell? ⟨(ad569.add ((x4_2).toNat * 4)).block, (ad569.add ((x4_2).toNat * 4)).off + 1, none⟩ = some (.int .u32 ((rd_T24 x0_3 x4_2).f1)) ∧ w'.cell? ⟨(ad569.add ((x4_2).toNat * 4)).block, (ad569.add ((x4_2).toNat * 4)).off + 2, none⟩ = some (.int .u32 ((rd_T24 x0_3 x4_2).f2)) ∧ w'.cell? ⟨(ad569.add ((x4_2).toNat * 4)).block, (ad569.add ((x4_2).toNat * 4)).off + 3, none⟩ = some (.string ((rd_T24 x0_3 x4_2).f3))) (ds := []) #[false, false, false, false, false, false, false, false, false, false] (by kernel_rfl) rfl rfl ⟨hx569_0, hx569_1, hx569_2, hx569_3⟩ (fun hHeld => ?_); refine with_tabW croftlaw46_TrackStraight.tab13 croftlaw46_TrackStraight.bits13 (fun HT_ HW_ => ?_)
                  generalize wc.drew = w51 at HO_0 HO562 HB hx569_0 hx569_1 hx569_2 hx569_3 hHeld ⊢
                  refine pure_ (i := 1) (N := some 96) (v := ?_) (a' := ?_) #[false, true, false, false, false, false, false, false, false, false] rfl rfl (any_of HT_.out (by kernel_rfl)) (fun _ _ _ h => h) (Or.inl ⟨by rfl, ?_⟩) ?_ ?_
                  rotate_left
                  · intro w'
                    go_simp
                    with_reducible rfl
                  rotate_left
                  · simp only [Act.put, List.setIfInBounds_toArray, List.set_cons_zero, List.set_cons_succ, i64_w, i32_w]
                    rfl
                  refine pure_ (i := 3) (N := some 98) (v := ?_) (a' := ?_) #[false, true, false, true, false, false, false, false, false, false] rfl rfl (any_of HT_.out (by kernel_rfl)) (fun _ _ _ h => h) (Or.inl ⟨by rfl, ?_⟩) ?_ ?_
                  rotate_left
                  · intro w'
                    go_simp
                    with_reducible rfl
                  rotate_left
                  · simp only [Act.put, List.setIfInBounds_toArray, List.set_cons_zero, List.set_cons_succ, i64_w, i32_w]
                    rfl
                  refine pure_ (i := 4) (N := some 99) (v := ?_) (a' := ?_) #[false, true, false, true, true, false, false, false, false, false] rfl rfl (any_of HT_.out (by kernel_rfl)) (fun _ _ _ h => h) (Or.inl ⟨by rfl, ?_⟩) ?_ ?_
                  rotate_left
                  · intro w'
                    go_simp
                    with_reducible rfl
                  rotate_left
                  · simp only [Act.put, List.setIfInBounds_toArray, List.set_cons_zero, List.set_cons_succ, i64_w, i32_w]
                    rfl
                  refine pure_ (i := 5) (N := some 100) (v := ?_) (a' := ?_) #[false, true, false, true, true, true, false, false, false, false] rfl rfl (any_of HT_.out (by kernel_rfl)) (fun _ _ _ h => h) (Or.inl ⟨by rfl, ?_⟩) ?_ ?_
                  rotate_left
                  · intro w'
                    go_simp
                    with_reducible rfl
                  rotate_left
                  · simp only [Act.put, List.setIfInBounds_toArray, List.set_cons_zero, List.set_cons_succ, i64_w, i32_w]
                    rfl
                  refine take_ (i := 6) (N := some 101) (v := ?_) (a' := ?_) #[false, true, false, true, true, true, true, false, false, false] rfl rfl (take_ofW HT_.out HW_.out (by kernel_rfl)) (fun _ _ _ h => h) (Or.inl ⟨by rfl, ?_⟩) hHeld ?_ ?_
                  rotate_left
                  · rintro w' ⟨s0, s1, s2, s3⟩
                    go_simp
                    with_reducible rfl
                  rotate_left
                  · simp only [Act.put, List.setIfInBounds_toArray, List.set_cons_zero, List.set_cons_succ, i64_w, i32_w]
                    rfl
                  have HO_0' := Aside0.mk (Kd.V_mono (ok' := (fun k_ => (P0_ k_ ∨ w.heap.size ≤ k_) ∧ some k_ ≠ (.slice Ao12 y560.length co12 : Value).ownBlock)) HO_0.out (fun k_ hk => ⟨hk.1, by rw [show (Value.slice Ao12 y560.length co12).ownBlock = (Value.slice Ao12 x3_2.length co12).ownBlock from by cases Ao12 <;> rfl]; exact hk.2⟩))
                  clear HO_0
                  have HO_0 := HO_0'
                  clear HO_0'
                  refine join_ (σ := Value × Value × Value) 2 #[true, true, true, true, true, true, true, true, false, false] (fun s_ => [(95, s_.1), (97, s_.2.1), (102, s_.2.2)]) (fun s_ w' => (w'.cell? (ad569.add ((x4_2).toNat * 4)) = some (.int .i64 ((rd_T24 x0_3 x4_2).f0)) ∧ w'.cell? ⟨(ad569.add ((x4_2).toNat * 4)).block, (ad569.add ((x4_2).toNat * 4)).off + 1, none⟩ = some (.int .u32 ((rd_T24 x0_3 x4_2).f1)) ∧ w'.cell? ⟨(ad569.add ((x4_2).toNat * 4)).block, (ad569.add ((x4_2).toNat * 4)).off + 2, none⟩ = some (.int .u32 ((rd_T24 x0_3 x4_2).f2)) ∧ w'.cell? ⟨(ad569.add ((x4_2).toNat * 4)).block, (ad569.add ((x4_2).toNat * 4)).off + 3, none⟩ = some (.string ((rd_T24 x0_3 x4_2).f3))) ∧ (Kd.R k24 24 w' w.heap.size (fun k_ => (w.heap.size ≤ k_) ∧ some k_ ≠ (s_.2.1 : Value).ownBlock ∧ some k_ ≠ (s_.2.2 : Value).ownBlock) (.slice Ao12 y560.length co12) y560) ∧ (Kd.R k24 24 w' w.heap.size (fun k_ => (w.heap.size ≤ k_) ∧ some k_ ≠ (.slice Ao12 y560.length co12 : Value).ownBlock ∧ some k_ ≠ (s_.2.2 : Value).ownBlock) s_.2.1 y566) ∧ (Kd.R k24 24 w' w.heap.size (fun k_ => (w.heap.size ≤ k_) ∧ some k_ ≠ (.slice Ao12 y560.length co12 : Value).ownBlock ∧ some k_ ≠ (s_.2.1 : Value).ownBlock) s_.2.2 y570) ∧ (Kd.V k24 24 w' w.heap.size (fun k_ => (P0_ k_ ∨ w.heap.size ≤ k_) ∧ some k_ ≠ (.slice Ao12 y560.length co12 : Value).ownBlock ∧ some k_ ≠ (s_.2.1 : Value).ownBlock ∧ some k_ ≠ (s_.2.2 : Value).ownBlock) (.slice (some ad569) x0_3.length co11) x0_3) ∧ (Below w.heap.size w w')) ?_ ?_
                  rotate_left
                  · intro hCont
                    refine two_ (i := 0) (j := 7) (Ni := some 95) (Nj := some 102) #[true, true, false, true, true, true, true, false, false, false] #[false, true, false, true, true, true, true, true, false, false] rfl rfl rfl rfl (two_of HT_.out (by kernel_rfl)) (by decide) (by decide) (fun K hK => ?_) (fun K hK => ?_)
                    · skip
                      refine Kd.R_lit_step k24 _ 24 ?hg (N := 95) ?hd (xs := ([] : List (S24))) (inner := []) (ok := fun _ => True) (okp := fun _ => True) ?hr ?hp (fun _ hk => hk) trivial (Below.refl _ _) (Nat.le_refl _) (by simp) ?_; (case hd => rfl); (case hg => rfl); (case hr => first | (go_simp; done) | (go_simp; rfl)); (case hp => exact (Reps.none _ _))
                      intro v564 w52 ho53 hb hg_ hnew_
                      have HS0_ := (hb.cell (World.block_lt_of_cell? _ _ (hHeld.1))).trans (hHeld.1)
                      have HS1_ := (hb.cell (World.block_lt_of_cell? _ _ (hHeld.2.1))).trans (hHeld.2.1)
                      have HS2_ := (hb.cell (World.block_lt_of_cell? _ _ (hHeld.2.2.1))).trans (hHeld.2.2.1)
                      have HS3_ := (hb.cell (World.block_lt_of_cell? _ _ (hHeld.2.2.2))).trans (hHeld.2.2.2)
                      clear hg_ hnew_
                      (first | rw [← Ny563.out] at ho53 | (simp only [Int.reduceToNat] at ho53; rw [← Ny563.out] at ho53))
                      have n0_ := Aside0.mk (Kd.V_elder' (by (with_reducible repeat (first | apply Kd.V_alloc | apply Kd.V_drewN | apply Kd.V_drew)); exact HO_0.out) (Kd.R_base ho53) hb)
                      have n1_ := Aside0.mk (Kd.R_elder' (by (with_reducible repeat (first | apply Kd.R_alloc | apply Kd.R_drewN | apply Kd.R_drew)); exact HO562.out) (Kd.R_base ho53) hb)
                      have n2_ := Aside0.mk (Kd.R_lower (Kd.R_new' (Kd.R_newM (M := fun k_ => (w.heap.size ≤ k_)) ho53 (below_size (by repeat (first | (with_reducible first | exact HB.out | apply below_alloc | apply pw_below_drewN | apply below_drew1) | exact HB.out))) (fun k_ h_ => h_)) (Kd.R_lt (by (with_reducible repeat (first | apply Kd.R_alloc | apply Kd.R_drewN | apply Kd.R_drew)); exact HO562.out))) (below_size (by repeat (first | (with_reducible first | exact HB.out | apply below_alloc | apply pw_below_drewN | apply below_drew1) | exact HB.out))))
                      have n3_ := Aside0.mk (below_step (by repeat (first | (with_reducible first | exact HB.out | apply below_alloc | apply pw_below_drewN | apply below_drew1) | exact HB.out)) hb)
                      clear HO_0
                      clear HO562
                      clear HB
                      have HO_0 := n0_
                      have HO562 := n1_
                      have HO565 := n2_
                      have HB := n3_
                      clear n0_ n1_ n2_ n3_
                      clear hb ho53
                      refine hK.out _ _ ⟨HS0_, HS1_, HS2_, HS3_⟩ (fun hHeld => ?_)
                      clear hK K
                      refine norm_ (a' := ?_) ?_ ?_
                      rotate_left
                      · show Act.put _ (some 95) _ = _
                        simp only [Act.put, List.setIfInBounds_toArray, List.set_cons_zero, List.set_cons_succ, i64_w, i32_w]
                        rfl
                      refine two_ (i := 2) (j := 7) (Ni := some 97) (Nj := some 102) #[true, true, true, true, true, true, true, false, false, false] #[true, true, false, true, true, true, true, true, false, false] rfl rfl rfl rfl (two_of HT_.out (by kernel_rfl)) (by decide) (by decide) (fun K hK => ?_) (fun K hK => ?_)
                      · skip
                        refine Kd.R_append_rows_step k24 (w0 := w) w.heap.size (by rfl) (.tmp 95) (.tmp 96) 27 24 (.agg #[(.int .i64 0), (.int .u32 0), (.int .u32 0), (.string ⟨#[]⟩)]) 32 rfl Try.underlying27 info24 rfl (by decide) (by omega) v564 y563 y560 _ _ _ (fun k_ => (w.heap.size ≤ k_) ∧ some k_ ≠ (.slice Ao12 y560.length co12 : Value).ownBlock) (fun _ => False) rfl rfl ?aO ?aR (fun _ _ h => h) (fun _ h => h.elim) ?aF ?aB ?aS ?aL ?_
                        (case aR => repeat (first | exact (Kd.R_reads' HO562.out).2.2 | (with_reducible refine Kd.C_alloc ?_ _) | (with_reducible refine Kd.C_drewN ?_ _) | (with_reducible refine Kd.C_drew ?_)))
                        (case aB => exact (by repeat (first | (with_reducible first | exact HB.out | apply below_alloc | apply pw_below_drewN | apply below_drew1) | exact HB.out)))
                        (case aF => exact (fun k_ hk => ⟨(Nat.le_trans (below_size (by repeat (first | (with_reducible first | exact HB.out | apply below_alloc | apply pw_below_drewN | apply below_drew1) | exact HB.out))) hk), Kd.fresh' (Kd.R_lt (by (with_reducible repeat (first | apply Kd.R_alloc | apply Kd.R_drewN | apply Kd.R_drew)); exact HO562.out)) k_ hk⟩))
                        (case aO => exact (by (with_reducible repeat (first | apply Kd.R_alloc | apply Kd.R_drewN | apply Kd.R_drew)); exact Kd.R_mono HO565.out (fun _ hk => ⟨hk.1.1, hk.2⟩)))
                        (case aS => exact (below_size (by repeat (first | (with_reducible first | exact HB.out | apply below_alloc | apply pw_below_drewN | apply below_drew1) | exact HB.out))))
                        (case aL => have := LMc46.out; omega)
                        intro v567 w54 ho hb hg hat
                        have HS0_ := Kd.V_afterv_cell (by (with_reducible repeat (first | apply Kd.V_alloc | apply Kd.V_drewN | apply Kd.V_drew)); exact HO_0.out) hg rfl (by have z1_ : 0 ≤ x4_2 := of_decide_eq_true (by first | (with_reducible assumption) | assumption); have z2_ : x4_2 < (x0_3.length : Int) := of_decide_eq_true (by first | (with_reducible assumption) | assumption); omega) (by decide) (by first | rfl | exact add_block _ _) (hHeld.1)
                        have HS1_ := Kd.V_afterv_cell (by (with_reducible repeat (first | apply Kd.V_alloc | apply Kd.V_drewN | apply Kd.V_drew)); exact HO_0.out) hg rfl (by have z1_ : 0 ≤ x4_2 := of_decide_eq_true (by first | (with_reducible assumption) | assumption); have z2_ : x4_2 < (x0_3.length : Int) := of_decide_eq_true (by first | (with_reducible assumption) | assumption); omega) (by decide) (by first | rfl | exact add_block _ _) (hHeld.2.1)
                        have HS2_ := Kd.V_afterv_cell (by (with_reducible repeat (first | apply Kd.V_alloc | apply Kd.V_drewN | apply Kd.V_drew)); exact HO_0.out) hg rfl (by have z1_ : 0 ≤ x4_2 := of_decide_eq_true (by first | (with_reducible assumption) | assumption); have z2_ : x4_2 < (x0_3.length : Int) := of_decide_eq_true (by first | (with_reducible assumption) | assumption); omega) (by decide) (by first | rfl | exact add_block _ _) (hHeld.2.2.1)
                        have HS3_ := Kd.V_afterv_cell (by (with_reducible repeat (first | apply Kd.V_alloc | apply Kd.V_drewN | apply Kd.V_drew)); exact HO_0.out) hg rfl (by have z1_ : 0 ≤ x4_2 := of_decide_eq_true (by first | (with_reducible assumption) | assumption); have z2_ : x4_2 < (x0_3.length : Int) := of_decide_eq_true (by first | (with_reducible assumption) | assumption); omega) (by decide) (by first | rfl | exact add_block _ _) (hHeld.2.2.2)
                        rw [← Ny566.out] at ho
                        have n0_ := Aside0.mk (Kd.V_afterv (ok := (fun k_ => (P0_ k_ ∨ w.heap.size ≤ k_) ∧ some k_ ≠ (.slice Ao12 y560.length co12 : Value).ownBlock)) (by (with_reducible repeat (first | apply Kd.V_alloc | apply Kd.V_drewN | apply Kd.V_drew)); exact HO_0.out) hg hat)
                        have n1_ := Aside0.mk (Kd.R_after (ok := (fun k_ => (w.heap.size ≤ k_))) (by (with_reducible repeat (first | apply Kd.R_alloc | apply Kd.R_drewN | apply Kd.R_drew)); exact HO562.out) hg hat)
                        have n2_ := Aside0.mk (hb)
                        have n3_ := Aside0.mk (ho)
                        clear HO_0
                        clear HO562
                        clear HB
                        clear HO565
                        have HO_0 := n0_
                        have HO562 := n1_
                        have HB := n2_
                        have HO568 := n3_
                        clear n0_ n1_ n2_ n3_
                        clear ho hb hg hat
                        refine hK.out _ _ ⟨HS0_, HS1_, HS2_, HS3_⟩ (fun hHeld => ?_)
                        clear hK K
                        refine norm_ (a' := ?_) ?_ ?_
                        rotate_left
                        · show Act.put _ (some 97) _ = _
                          simp only [Act.put, List.setIfInBounds_toArray, List.set_cons_zero, List.set_cons_succ, i64_w, i32_w]
                          rfl
                        refine one_ (i := 7) (N := some 102) #[true, true, true, true, true, true, true, true, false, false] rfl rfl (one_of HT_.out (by kernel_rfl)) (by decide) (fun K hK => ?_)
                        refine Kd.R_lit_step k24 _ 24 ?hg (N := 102) ?hd (xs := ([(⟨(rd_T24 x0_3 x4_2).f0, (rd_T24 x0_3 x4_2).f1, (rd_T24 x0_3 x4_2).f2, (rd_T24 x0_3 x4_2).f3⟩ : S24)] : List (S24))) (inner := [.int .i64 ((rd_T24 x0_3 x4_2).f0), .int .u32 ((rd_T24 x0_3 x4_2).f1), .int .u32 ((rd_T24 x0_3 x4_2).f2), .string ((rd_T24 x0_3 x4_2).f3)]) (ok := fun _ => True) (okp := fun _ => True) ?hr ?hp (fun _ hk => hk) trivial (Below.refl _ _) (Nat.le_refl _) (by simp) ?_; (case hd => rfl); (case hg => rfl); (case hr => first | (go_simp; done) | (go_simp; rfl)); (case hp => exact (Reps.c4 (show Kd.M k24 _ _ _ (⟨(rd_T24 x0_3 x4_2).f0, (rd_T24 x0_3 x4_2).f1, (rd_T24 x0_3 x4_2).f2, (rd_T24 x0_3 x4_2).f3⟩ : S24) [.int .i64 ((rd_T24 x0_3 x4_2).f0), .int .u32 ((rd_T24 x0_3 x4_2).f1), .int .u32 ((rd_T24 x0_3 x4_2).f2), .string ((rd_T24 x0_3 x4_2).f3)] from (k24_mkM _ _ _ (⟨(rd_T24 x0_3 x4_2).f0, (rd_T24 x0_3 x4_2).f1, (rd_T24 x0_3 x4_2).f2, (rd_T24 x0_3 x4_2).f3⟩ : S24) )) (Reps.none _ _)))
                        intro v571 w55 ho56 hb hg_ hnew_
                        have HS0_ := (hb.cell (World.block_lt_of_cell? _ _ (hHeld.1))).trans (hHeld.1)
                        have HS1_ := (hb.cell (World.block_lt_of_cell? _ _ (hHeld.2.1))).trans (hHeld.2.1)
                        have HS2_ := (hb.cell (World.block_lt_of_cell? _ _ (hHeld.2.2.1))).trans (hHeld.2.2.1)
                        have HS3_ := (hb.cell (World.block_lt_of_cell? _ _ (hHeld.2.2.2))).trans (hHeld.2.2.2)
                        clear hg_ hnew_
                        (first | rw [← Ny570.out] at ho56 | (simp only [Int.reduceToNat] at ho56; rw [← Ny570.out] at ho56))
                        have n0_ := Aside0.mk (Kd.V_elder' (by (with_reducible repeat (first | apply Kd.V_alloc | apply Kd.V_drewN | apply Kd.V_drew)); exact HO_0.out) (Kd.R_base ho56) hb)
                        have n1_ := Aside0.mk (Kd.R_elder' (by (with_reducible repeat (first | apply Kd.R_alloc | apply Kd.R_drewN | apply Kd.R_drew)); exact HO562.out) (Kd.R_base ho56) hb)
                        have n2_ := Aside0.mk (Kd.R_elder' (by (with_reducible repeat (first | apply Kd.R_alloc | apply Kd.R_drewN | apply Kd.R_drew)); exact HO568.out) (Kd.R_base ho56) hb)
                        have n3_ := Aside0.mk (Kd.R_lower (Kd.R_new' (Kd.R_new' (Kd.R_newM (M := fun k_ => (w.heap.size ≤ k_)) ho56 (below_size (by repeat (first | (with_reducible first | exact HB.out | apply below_alloc | apply pw_below_drewN | apply below_drew1) | exact HB.out))) (fun k_ h_ => h_)) (Kd.R_lt (by (with_reducible repeat (first | apply Kd.R_alloc | apply Kd.R_drewN | apply Kd.R_drew)); exact HO562.out))) (Kd.R_lt (by (with_reducible repeat (first | apply Kd.R_alloc | apply Kd.R_drewN | apply Kd.R_drew)); exact HO568.out))) (below_size (by repeat (first | (with_reducible first | exact HB.out | apply below_alloc | apply pw_below_drewN | apply below_drew1) | exact HB.out))))
                        have n4_ := Aside0.mk (below_step (by repeat (first | (with_reducible first | exact HB.out | apply below_alloc | apply pw_below_drewN | apply below_drew1) | exact HB.out)) hb)
                        clear HO_0
                        clear HO562
                        clear HO568
                        clear HB
                        have HO_0 := n0_
                        have HO562 := n1_
                        have HO568 := n2_
                        have HO572 := n3_
                        have HB := n4_
                        clear n0_ n1_ n2_ n3_ n4_
                        clear hb ho56
                        refine hK.out _ _ ⟨HS0_, HS1_, HS2_, HS3_⟩ (fun hHeld => ?_)
                        clear hK K
                        refine norm_ (a' := ?_) ?_ ?_
                        rotate_left
                        · show Act.put _ (some 102) _ = _
                          simp only [Act.put, List.setIfInBounds_toArray, List.set_cons_zero, List.set_cons_succ, i64_w, i32_w]
                          rfl
                        exact norm_ (by simp only [putAll, Act.put, List.setIfInBounds_toArray, List.set_cons_zero, List.set_cons_succ]) (hCont (v564, v567, v571) _ ⟨hHeld, (by (with_reducible repeat (first | apply Kd.R_alloc | apply Kd.R_drewN | apply Kd.R_drew)); exact Kd.R_mono HO562.out (fun _ hk => ⟨hk.1.1, ⟨hk.1.2, hk.2⟩⟩)), (by (with_reducible repeat (first | apply Kd.R_alloc | apply Kd.R_drewN | apply Kd.R_drew)); exact Kd.R_mono HO568.out (fun _ hk => ⟨hk.1.1, ⟨hk.1.2, hk.2⟩⟩)), (by (with_reducible repeat (first | apply Kd.R_alloc | apply Kd.R_drewN | apply Kd.R_drew)); exact Kd.R_mono HO572.out (fun _ hk => ⟨hk.1.1.1, ⟨hk.1.2, hk.2⟩⟩)), (by (with_reducible repeat (first | apply Kd.V_alloc | apply Kd.V_drewN | apply Kd.V_drew)); exact Kd.V_mono HO_0.out (fun _ hk => ⟨hk.1.1.1, ⟨hk.1.1.2, ⟨hk.1.2, hk.2⟩⟩⟩)), (by repeat (first | (with_reducible first | exact HB.out | apply below_alloc | apply pw_below_drewN | apply below_drew1) | exact HB.out))⟩)
                      · skip
                        refine Kd.R_lit_step k24 _ 24 ?hg (N := 102) ?hd (xs := ([(⟨(rd_T24 x0_3 x4_2).f0, (rd_T24 x0_3 x4_2).f1, (rd_T24 x0_3 x4_2).f2, (rd_T24 x0_3 x4_2).f3⟩ : S24)] : List (S24))) (inner := [.int .i64 ((rd_T24 x0_3 x4_2).f0), .int .u32 ((rd_T24 x0_3 x4_2).f1), .int .u32 ((rd_T24 x0_3 x4_2).f2), .string ((rd_T24 x0_3 x4_2).f3)]) (ok := fun _ => True) (okp := fun _ => True) ?hr ?hp (fun _ hk => hk) trivial (Below.refl _ _) (Nat.le_refl _) (by simp) ?_; (case hd => rfl); (case hg => rfl); (case hr => first | (go_simp; done) | (go_simp; rfl)); (case hp => exact (Reps.c4 (show Kd.M k24 _ _ _ (⟨(rd_T24 x0_3 x4_2).f0, (rd_T24 x0_3 x4_2).f1, (rd_T24 x0_3 x4_2).f2, (rd_T24 x0_3 x4_2).f3⟩ : S24) [.int .i64 ((rd_T24 x0_3 x4_2).f0), .int .u32 ((rd_T24 x0_3 x4_2).f1), .int .u32 ((rd_T24 x0_3 x4_2).f2), .string ((rd_T24 x0_3 x4_2).f3)] from (k24_mkM _ _ _ (⟨(rd_T24 x0_3 x4_2).f0, (rd_T24 x0_3 x4_2).f1, (rd_T24 x0_3 x4_2).f2, (rd_T24 x0_3 x4_2).f3⟩ : S24) )) (Reps.none _ _)))
                        intro v571 w54 ho55 hb hg_ hnew_
                        have HS0_ := (hb.cell (World.block_lt_of_cell? _ _ (hHeld.1))).trans (hHeld.1)
                        have HS1_ := (hb.cell (World.block_lt_of_cell? _ _ (hHeld.2.1))).trans (hHeld.2.1)
                        have HS2_ := (hb.cell (World.block_lt_of_cell? _ _ (hHeld.2.2.1))).trans (hHeld.2.2.1)
                        have HS3_ := (hb.cell (World.block_lt_of_cell? _ _ (hHeld.2.2.2))).trans (hHeld.2.2.2)
                        clear hg_ hnew_
                        (first | rw [← Ny570.out] at ho55 | (simp only [Int.reduceToNat] at ho55; rw [← Ny570.out] at ho55))
                        have n0_ := Aside0.mk (Kd.V_elder' (by (with_reducible repeat (first | apply Kd.V_alloc | apply Kd.V_drewN | apply Kd.V_drew)); exact HO_0.out) (Kd.R_base ho55) hb)
                        have n1_ := Aside0.mk (Kd.R_elder' (by (with_reducible repeat (first | apply Kd.R_alloc | apply Kd.R_drewN | apply Kd.R_drew)); exact HO562.out) (Kd.R_base ho55) hb)
                        have n2_ := Aside0.mk (Kd.R_elder' (by (with_reducible repeat (first | apply Kd.R_alloc | apply Kd.R_drewN | apply Kd.R_drew)); exact HO565.out) (Kd.R_base ho55) hb)
                        have n3_ := Aside0.mk (Kd.R_lower (Kd.R_new' (Kd.R_new' (Kd.R_newM (M := fun k_ => (w.heap.size ≤ k_)) ho55 (below_size (by repeat (first | (with_reducible first | exact HB.out | apply below_alloc | apply pw_below_drewN | apply below_drew1) | exact HB.out))) (fun k_ h_ => h_)) (Kd.R_lt (by (with_reducible repeat (first | apply Kd.R_alloc | apply Kd.R_drewN | apply Kd.R_drew)); exact HO562.out))) (Kd.R_lt (by (with_reducible repeat (first | apply Kd.R_alloc | apply Kd.R_drewN | apply Kd.R_drew)); exact HO565.out))) (below_size (by repeat (first | (with_reducible first | exact HB.out | apply below_alloc | apply pw_below_drewN | apply below_drew1) | exact HB.out))))
                        have n4_ := Aside0.mk (below_step (by repeat (first | (with_reducible first | exact HB.out | apply below_alloc | apply pw_below_drewN | apply below_drew1) | exact HB.out)) hb)
                        clear HO_0
                        clear HO562
                        clear HO565
                        clear HB
                        have HO_0 := n0_
                        have HO562 := n1_
                        have HO565 := n2_
                        have HO572 := n3_
                        have HB := n4_
                        clear n0_ n1_ n2_ n3_ n4_
                        clear hb ho55
                        refine hK.out _ _ ⟨HS0_, HS1_, HS2_, HS3_⟩ (fun hHeld => ?_)
                        clear hK K
                        refine norm_ (a' := ?_) ?_ ?_
                        rotate_left
                        · show Act.put _ (some 102) _ = _
                          simp only [Act.put, List.setIfInBounds_toArray, List.set_cons_zero, List.set_cons_succ, i64_w, i32_w]
                          rfl
                        refine one_ (i := 2) (N := some 97) #[true, true, true, true, true, true, true, true, false, false] rfl rfl (one_of HT_.out (by kernel_rfl)) (by decide) (fun K hK => ?_)
                        refine Kd.R_append_rows_step k24 (w0 := w) w.heap.size (by rfl) (.tmp 95) (.tmp 96) 27 24 (.agg #[(.int .i64 0), (.int .u32 0), (.int .u32 0), (.string ⟨#[]⟩)]) 32 rfl Try.underlying27 info24 rfl (by decide) (by omega) v564 y563 y560 _ _ _ (fun k_ => (w.heap.size ≤ k_) ∧ some k_ ≠ (.slice Ao12 y560.length co12 : Value).ownBlock ∧ some k_ ≠ (v571 : Value).ownBlock) (fun _ => False) rfl rfl ?aO ?aR (fun _ _ h => h) (fun _ h => h.elim) ?aF ?aB ?aS ?aL ?_
                        (case aR => repeat (first | exact (Kd.R_reads' HO562.out).2.2 | (with_reducible refine Kd.C_alloc ?_ _) | (with_reducible refine Kd.C_drewN ?_ _) | (with_reducible refine Kd.C_drew ?_)))
                        (case aB => exact (by repeat (first | (with_reducible first | exact HB.out | apply below_alloc | apply pw_below_drewN | apply below_drew1) | exact HB.out)))
                        (case aF => exact (fun k_ hk => ⟨(Nat.le_trans (below_size (by repeat (first | (with_reducible first | exact HB.out | apply below_alloc | apply pw_below_drewN | apply below_drew1) | exact HB.out))) hk), Kd.fresh' (Kd.R_lt (by (with_reducible repeat (first | apply Kd.R_alloc | apply Kd.R_drewN | apply Kd.R_drew)); exact HO562.out)) k_ hk, Kd.fresh' (Kd.R_lt (by (with_reducible repeat (first | apply Kd.R_alloc | apply Kd.R_drewN | apply Kd.R_drew)); exact HO572.out)) k_ hk⟩))
                        (case aO => exact (by (with_reducible repeat (first | apply Kd.R_alloc | apply Kd.R_drewN | apply Kd.R_drew)); exact Kd.R_mono HO565.out (fun _ hk => ⟨hk.1.1.1, ⟨hk.1.2, hk.2⟩⟩)))
                        (case aS => exact (below_size (by repeat (first | (with_reducible first | exact HB.out | apply below_alloc | apply pw_below_drewN | apply below_drew1) | exact HB.out))))
                        (case aL => have := LMc46.out; omega)
                        intro v567 w56 ho hb hg hat
                        have HS0_ := Kd.V_afterv_cell (ok := (fun k_ => (P0_ k_ ∨ w.heap.size ≤ k_) ∧ some k_ ≠ (.slice Ao12 y560.length co12 : Value).ownBlock ∧ some k_ ≠ (v571 : Value).ownBlock)) (by (with_reducible repeat (first | apply Kd.V_alloc | apply Kd.V_drewN | apply Kd.V_drew)); exact Kd.V_mono HO_0.out (fun _ hk => ⟨⟨hk.1.1.1, ⟨hk.1.1.2, hk.2⟩⟩, hk.1.2⟩)) hg rfl (by have z1_ : 0 ≤ x4_2 := of_decide_eq_true (by first | (with_reducible assumption) | assumption); have z2_ : x4_2 < (x0_3.length : Int) := of_decide_eq_true (by first | (with_reducible assumption) | assumption); omega) (by decide) (by first | rfl | exact add_block _ _) (hHeld.1)
                        have HS1_ := Kd.V_afterv_cell (ok := (fun k_ => (P0_ k_ ∨ w.heap.size ≤ k_) ∧ some k_ ≠ (.slice Ao12 y560.length co12 : Value).ownBlock ∧ some k_ ≠ (v571 : Value).ownBlock)) (by (with_reducible repeat (first | apply Kd.V_alloc | apply Kd.V_drewN | apply Kd.V_drew)); exact Kd.V_mono HO_0.out (fun _ hk => ⟨⟨hk.1.1.1, ⟨hk.1.1.2, hk.2⟩⟩, hk.1.2⟩)) hg rfl (by have z1_ : 0 ≤ x4_2 := of_decide_eq_true (by first | (with_reducible assumption) | assumption); have z2_ : x4_2 < (x0_3.length : Int) := of_decide_eq_true (by first | (with_reducible assumption) | assumption); omega) (by decide) (by first | rfl | exact add_block _ _) (hHeld.2.1)
                        have HS2_ := Kd.V_afterv_cell (ok := (fun k_ => (P0_ k_ ∨ w.heap.size ≤ k_) ∧ some k_ ≠ (.slice Ao12 y560.length co12 : Value).ownBlock ∧ some k_ ≠ (v571 : Value).ownBlock)) (by (with_reducible repeat (first | apply Kd.V_alloc | apply Kd.V_drewN | apply Kd.V_drew)); exact Kd.V_mono HO_0.out (fun _ hk => ⟨⟨hk.1.1.1, ⟨hk.1.1.2, hk.2⟩⟩, hk.1.2⟩)) hg rfl (by have z1_ : 0 ≤ x4_2 := of_decide_eq_true (by first | (with_reducible assumption) | assumption); have z2_ : x4_2 < (x0_3.length : Int) := of_decide_eq_true (by first | (with_reducible assumption) | assumption); omega) (by decide) (by first | rfl | exact add_block _ _) (hHeld.2.2.1)
                        have HS3_ := Kd.V_afterv_cell (ok := (fun k_ => (P0_ k_ ∨ w.heap.size ≤ k_) ∧ some k_ ≠ (.slice Ao12 y560.length co12 : Value).ownBlock ∧ some k_ ≠ (v571 : Value).ownBlock)) (by (with_reducible repeat (first | apply Kd.V_alloc | apply Kd.V_drewN | apply Kd.V_drew)); exact Kd.V_mono HO_0.out (fun _ hk => ⟨⟨hk.1.1.1, ⟨hk.1.1.2, hk.2⟩⟩, hk.1.2⟩)) hg rfl (by have z1_ : 0 ≤ x4_2 := of_decide_eq_true (by first | (with_reducible assumption) | assumption); have z2_ : x4_2 < (x0_3.length : Int) := of_decide_eq_true (by first | (with_reducible assumption) | assumption); omega) (by decide) (by first | rfl | exact add_block _ _) (hHeld.2.2.2)
                        rw [← Ny566.out] at ho
                        have n0_ := Aside0.mk (Kd.V_afterv (ok := (fun k_ => (P0_ k_ ∨ w.heap.size ≤ k_) ∧ some k_ ≠ (.slice Ao12 y560.length co12 : Value).ownBlock ∧ some k_ ≠ (v571 : Value).ownBlock)) (by (with_reducible repeat (first | apply Kd.V_alloc | apply Kd.V_drewN | apply Kd.V_drew)); exact Kd.V_mono HO_0.out (fun _ hk => ⟨⟨hk.1.1.1, ⟨hk.1.1.2, hk.2⟩⟩, hk.1.2⟩)) hg hat)
                        have n1_ := Aside0.mk (Kd.R_after (ok := (fun k_ => (w.heap.size ≤ k_) ∧ some k_ ≠ (v571 : Value).ownBlock)) (by (with_reducible repeat (first | apply Kd.R_alloc | apply Kd.R_drewN | apply Kd.R_drew)); exact Kd.R_mono HO562.out (fun _ hk => ⟨⟨hk.1.1, hk.2⟩, hk.1.2⟩)) hg hat)
                        have n2_ := Aside0.mk (Kd.R_after (ok := (fun k_ => (w.heap.size ≤ k_) ∧ some k_ ≠ (.slice Ao12 y560.length co12 : Value).ownBlock)) (by (with_reducible repeat (first | apply Kd.R_alloc | apply Kd.R_drewN | apply Kd.R_drew)); exact Kd.R_mono HO572.out (fun _ hk => ⟨⟨hk.1.1.1, hk.1.2⟩, hk.2⟩)) hg hat)
                        have n3_ := Aside0.mk (hb)
                        have n4_ := Aside0.mk (ho)
                        clear HO_0
                        clear HO562
                        clear HO572
                        clear HB
                        clear HO565
                        have HO_0 := n0_
                        have HO562 := n1_
                        have HO572 := n2_
                        have HB := n3_
                        have HO568 := n4_
                        clear n0_ n1_ n2_ n3_ n4_
                        clear ho hb hg hat
                        refine hK.out _ _ ⟨HS0_, HS1_, HS2_, HS3_⟩ (fun hHeld => ?_)
                        clear hK K
                        refine norm_ (a' := ?_) ?_ ?_
                        rotate_left
                        · show Act.put _ (some 97) _ = _
                          simp only [Act.put, List.setIfInBounds_toArray, List.set_cons_zero, List.set_cons_succ, i64_w, i32_w]
                          rfl
                        exact norm_ (by simp only [putAll, Act.put, List.setIfInBounds_toArray, List.set_cons_zero, List.set_cons_succ]) (hCont (v564, v567, v571) _ ⟨hHeld, (by (with_reducible repeat (first | apply Kd.R_alloc | apply Kd.R_drewN | apply Kd.R_drew)); exact Kd.R_mono HO562.out (fun _ hk => ⟨hk.1.1, ⟨hk.2, hk.1.2⟩⟩)), (by (with_reducible repeat (first | apply Kd.R_alloc | apply Kd.R_drewN | apply Kd.R_drew)); exact HO568.out), (by (with_reducible repeat (first | apply Kd.R_alloc | apply Kd.R_drewN | apply Kd.R_drew)); exact Kd.R_mono HO572.out (fun _ hk => ⟨hk.1.1, ⟨hk.1.2, hk.2⟩⟩)), (by (with_reducible repeat (first | apply Kd.V_alloc | apply Kd.V_drewN | apply Kd.V_drew)); exact Kd.V_mono HO_0.out (fun _ hk => ⟨hk.1.1, ⟨hk.1.2.1, ⟨hk.2, hk.1.2.2⟩⟩⟩)), (by repeat (first | (with_reducible first | exact HB.out | apply below_alloc | apply pw_below_drewN | apply below_drew1) | exact HB.out))⟩)
                    · skip
                      refine Kd.R_lit_step k24 _ 24 ?hg (N := 102) ?hd (xs := ([(⟨(rd_T24 x0_3 x4_2).f0, (rd_T24 x0_3 x4_2).f1, (rd_T24 x0_3 x4_2).f2, (rd_T24 x0_3 x4_2).f3⟩ : S24)] : List (S24))) (inner := [.int .i64 ((rd_T24 x0_3 x4_2).f0), .int .u32 ((rd_T24 x0_3 x4_2).f1), .int .u32 ((rd_T24 x0_3 x4_2).f2), .string ((rd_T24 x0_3 x4_2).f3)]) (ok := fun _ => True) (okp := fun _ => True) ?hr ?hp (fun _ hk => hk) trivial (Below.refl _ _) (Nat.le_refl _) (by simp) ?_; (case hd => rfl); (case hg => rfl); (case hr => first | (go_simp; done) | (go_simp; rfl)); (case hp => exact (Reps.c4 (show Kd.M k24 _ _ _ (⟨(rd_T24 x0_3 x4_2).f0, (rd_T24 x0_3 x4_2).f1, (rd_T24 x0_3 x4_2).f2, (rd_T24 x0_3 x4_2).f3⟩ : S24) [.int .i64 ((rd_T24 x0_3 x4_2).f0), .int .u32 ((rd_T24 x0_3 x4_2).f1), .int .u32 ((rd_T24 x0_3 x4_2).f2), .string ((rd_T24 x0_3 x4_2).f3)] from (k24_mkM _ _ _ (⟨(rd_T24 x0_3 x4_2).f0, (rd_T24 x0_3 x4_2).f1, (rd_T24 x0_3 x4_2).f2, (rd_T24 x0_3 x4_2).f3⟩ : S24) )) (Reps.none _ _)))
                      intro v571 w52 ho53 hb hg_ hnew_
                      have HS0_ := (hb.cell (World.block_lt_of_cell? _ _ (hHeld.1))).trans (hHeld.1)
                      have HS1_ := (hb.cell (World.block_lt_of_cell? _ _ (hHeld.2.1))).trans (hHeld.2.1)
                      have HS2_ := (hb.cell (World.block_lt_of_cell? _ _ (hHeld.2.2.1))).trans (hHeld.2.2.1)
                      have HS3_ := (hb.cell (World.block_lt_of_cell? _ _ (hHeld.2.2.2))).trans (hHeld.2.2.2)
                      clear hg_ hnew_
                      (first | rw [← Ny570.out] at ho53 | (simp only [Int.reduceToNat] at ho53; rw [← Ny570.out] at ho53))
                      have n0_ := Aside0.mk (Kd.V_elder' (by (with_reducible repeat (first | apply Kd.V_alloc | apply Kd.V_drewN | apply Kd.V_drew)); exact HO_0.out) (Kd.R_base ho53) hb)
                      have n1_ := Aside0.mk (Kd.R_elder' (by (with_reducible repeat (first | apply Kd.R_alloc | apply Kd.R_drewN | apply Kd.R_drew)); exact HO562.out) (Kd.R_base ho53) hb)
                      have n2_ := Aside0.mk (Kd.R_lower (Kd.R_new' (Kd.R_newM (M := fun k_ => (w.heap.size ≤ k_)) ho53 (below_size (by repeat (first | (with_reducible first | exact HB.out | apply below_alloc | apply pw_below_drewN | apply below_drew1) | exact HB.out))) (fun k_ h_ => h_)) (Kd.R_lt (by (with_reducible repeat (first | apply Kd.R_alloc | apply Kd.R_drewN | apply Kd.R_drew)); exact HO562.out))) (below_size (by repeat (first | (with_reducible first | exact HB.out | apply below_alloc | apply pw_below_drewN | apply below_drew1) | exact HB.out))))
                      have n3_ := Aside0.mk (below_step (by repeat (first | (with_reducible first | exact HB.out | apply below_alloc | apply pw_below_drewN | apply below_drew1) | exact HB.out)) hb)
                      clear HO_0
                      clear HO562
                      clear HB
                      have HO_0 := n0_
                      have HO562 := n1_
                      have HO572 := n2_
                      have HB := n3_
                      clear n0_ n1_ n2_ n3_
                      clear hb ho53
                      refine hK.out _ _ ⟨HS0_, HS1_, HS2_, HS3_⟩ (fun hHeld => ?_)
                      clear hK K
                      refine norm_ (a' := ?_) ?_ ?_
                      rotate_left
                      · show Act.put _ (some 102) _ = _
                        simp only [Act.put, List.setIfInBounds_toArray, List.set_cons_zero, List.set_cons_succ, i64_w, i32_w]
                        rfl
                      refine one_ (i := 0) (N := some 95) #[true, true, false, true, true, true, true, true, false, false] rfl rfl (one_of HT_.out (by kernel_rfl)) (by decide) (fun K hK => ?_)
                      refine Kd.R_lit_step k24 _ 24 ?hg (N := 95) ?hd (xs := ([] : List (S24))) (inner := []) (ok := fun _ => True) (okp := fun _ => True) ?hr ?hp (fun _ hk => hk) trivial (Below.refl _ _) (Nat.le_refl _) (by simp) ?_; (case hd => rfl); (case hg => rfl); (case hr => first | (go_simp; done) | (go_simp; rfl)); (case hp => exact (Reps.none _ _))
                      intro v564 w54 ho55 hb hg_ hnew_
                      have HS0_ := (hb.cell (World.block_lt_of_cell? _ _ (hHeld.1))).trans (hHeld.1)
                      have HS1_ := (hb.cell (World.block_lt_of_cell? _ _ (hHeld.2.1))).trans (hHeld.2.1)
                      have HS2_ := (hb.cell (World.block_lt_of_cell? _ _ (hHeld.2.2.1))).trans (hHeld.2.2.1)
                      have HS3_ := (hb.cell (World.block_lt_of_cell? _ _ (hHeld.2.2.2))).trans (hHeld.2.2.2)
                      clear hg_ hnew_
                      (first | rw [← Ny563.out] at ho55 | (simp only [Int.reduceToNat] at ho55; rw [← Ny563.out] at ho55))
                      have n0_ := Aside0.mk (Kd.V_elder' (by (with_reducible repeat (first | apply Kd.V_alloc | apply Kd.V_drewN | apply Kd.V_drew)); exact HO_0.out) (Kd.R_base ho55) hb)
                      have n1_ := Aside0.mk (Kd.R_elder' (by (with_reducible repeat (first | apply Kd.R_alloc | apply Kd.R_drewN | apply Kd.R_drew)); exact HO562.out) (Kd.R_base ho55) hb)
                      have n2_ := Aside0.mk (Kd.R_elder' (by (with_reducible repeat (first | apply Kd.R_alloc | apply Kd.R_drewN | apply Kd.R_drew)); exact HO572.out) (Kd.R_base ho55) hb)
                      have n3_ := Aside0.mk (Kd.R_lower (Kd.R_new' (Kd.R_new' (Kd.R_newM (M := fun k_ => (w.heap.size ≤ k_)) ho55 (below_size (by repeat (first | (with_reducible first | exact HB.out | apply below_alloc | apply pw_below_drewN | apply below_drew1) | exact HB.out))) (fun k_ h_ => h_)) (Kd.R_lt (by (with_reducible repeat (first | apply Kd.R_alloc | apply Kd.R_drewN | apply Kd.R_drew)); exact HO562.out))) (Kd.R_lt (by (with_reducible repeat (first | apply Kd.R_alloc | apply Kd.R_drewN | apply Kd.R_drew)); exact HO572.out))) (below_size (by repeat (first | (with_reducible first | exact HB.out | apply below_alloc | apply pw_below_drewN | apply below_drew1) | exact HB.out))))
                      have n4_ := Aside0.mk (below_step (by repeat (first | (with_reducible first | exact HB.out | apply below_alloc | apply pw_below_drewN | apply below_drew1) | exact HB.out)) hb)
                      clear HO_0
                      clear HO562
                      clear HO572
                      clear HB
                      have HO_0 := n0_
                      have HO562 := n1_
                      have HO572 := n2_
                      have HO565 := n3_
                      have HB := n4_
                      clear n0_ n1_ n2_ n3_ n4_
                      clear hb ho55
                      refine hK.out _ _ ⟨HS0_, HS1_, HS2_, HS3_⟩ (fun hHeld => ?_)
                      clear hK K
                      refine norm_ (a' := ?_) ?_ ?_
                      rotate_left
                      · show Act.put _ (some 95) _ = _
                        simp only [Act.put, List.setIfInBounds_toArray, List.set_cons_zero, List.set_cons_succ, i64_w, i32_w]
                        rfl
                      refine one_ (i := 2) (N := some 97) #[true, true, true, true, true, true, true, true, false, false] rfl rfl (one_of HT_.out (by kernel_rfl)) (by decide) (fun K hK => ?_)
                      refine Kd.R_append_rows_step k24 (w0 := w) w.heap.size (by rfl) (.tmp 95) (.tmp 96) 27 24 (.agg #[(.int .i64 0), (.int .u32 0), (.int .u32 0), (.string ⟨#[]⟩)]) 32 rfl Try.underlying27 info24 rfl (by decide) (by omega) v564 y563 y560 _ _ _ (fun k_ => (w.heap.size ≤ k_) ∧ some k_ ≠ (.slice Ao12 y560.length co12 : Value).ownBlock ∧ some k_ ≠ (v571 : Value).ownBlock) (fun _ => False) rfl rfl ?aO ?aR (fun _ _ h => h) (fun _ h => h.elim) ?aF ?aB ?aS ?aL ?_
                      (case aR => repeat (first | exact (Kd.R_reads' HO562.out).2.2 | (with_reducible refine Kd.C_alloc ?_ _) | (with_reducible refine Kd.C_drewN ?_ _) | (with_reducible refine Kd.C_drew ?_)))
                      (case aB => exact (by repeat (first | (with_reducible first | exact HB.out | apply below_alloc | apply pw_below_drewN | apply below_drew1) | exact HB.out)))
                      (case aF => exact (fun k_ hk => ⟨(Nat.le_trans (below_size (by repeat (first | (with_reducible first | exact HB.out | apply below_alloc | apply pw_below_drewN | apply below_drew1) | exact HB.out))) hk), Kd.fresh' (Kd.R_lt (by (with_reducible repeat (first | apply Kd.R_alloc | apply Kd.R_drewN | apply Kd.R_drew)); exact HO562.out)) k_ hk, Kd.fresh' (Kd.R_lt (by (with_reducible repeat (first | apply Kd.R_alloc | apply Kd.R_drewN | apply Kd.R_drew)); exact HO572.out)) k_ hk⟩))
                      (case aO => exact (by (with_reducible repeat (first | apply Kd.R_alloc | apply Kd.R_drewN | apply Kd.R_drew)); exact Kd.R_mono HO565.out (fun _ hk => ⟨hk.1.1.1, ⟨hk.1.2, hk.2⟩⟩)))
                      (case aS => exact (below_size (by repeat (first | (with_reducible first | exact HB.out | apply below_alloc | apply pw_below_drewN | apply below_drew1) | exact HB.out))))
                      (case aL => have := LMc46.out; omega)
                      intro v567 w56 ho hb hg hat
                      have HS0_ := Kd.V_afterv_cell (ok := (fun k_ => (P0_ k_ ∨ w.heap.size ≤ k_) ∧ some k_ ≠ (.slice Ao12 y560.length co12 : Value).ownBlock ∧ some k_ ≠ (v571 : Value).ownBlock)) (by (with_reducible repeat (first | apply Kd.V_alloc | apply Kd.V_drewN | apply Kd.V_drew)); exact Kd.V_mono HO_0.out (fun _ hk => ⟨⟨hk.1.1.1, ⟨hk.1.1.2, hk.1.2⟩⟩, hk.2⟩)) hg rfl (by have z1_ : 0 ≤ x4_2 := of_decide_eq_true (by first | (with_reducible assumption) | assumption); have z2_ : x4_2 < (x0_3.length : Int) := of_decide_eq_true (by first | (with_reducible assumption) | assumption); omega) (by decide) (by first | rfl | exact add_block _ _) (hHeld.1)
                      have HS1_ := Kd.V_afterv_cell (ok := (fun k_ => (P0_ k_ ∨ w.heap.size ≤ k_) ∧ some k_ ≠ (.slice Ao12 y560.length co12 : Value).ownBlock ∧ some k_ ≠ (v571 : Value).ownBlock)) (by (with_reducible repeat (first | apply Kd.V_alloc | apply Kd.V_drewN | apply Kd.V_drew)); exact Kd.V_mono HO_0.out (fun _ hk => ⟨⟨hk.1.1.1, ⟨hk.1.1.2, hk.1.2⟩⟩, hk.2⟩)) hg rfl (by have z1_ : 0 ≤ x4_2 := of_decide_eq_true (by first | (with_reducible assumption) | assumption); have z2_ : x4_2 < (x0_3.length : Int) := of_decide_eq_true (by first | (with_reducible assumption) | assumption); omega) (by decide) (by first | rfl | exact add_block _ _) (hHeld.2.1)
                      have HS2_ := Kd.V_afterv_cell (ok := (fun k_ => (P0_ k_ ∨ w.heap.size ≤ k_) ∧ some k_ ≠ (.slice Ao12 y560.length co12 : Value).ownBlock ∧ some k_ ≠ (v571 : Value).ownBlock)) (by (with_reducible repeat (first | apply Kd.V_alloc | apply Kd.V_drewN | apply Kd.V_drew)); exact Kd.V_mono HO_0.out (fun _ hk => ⟨⟨hk.1.1.1, ⟨hk.1.1.2, hk.1.2⟩⟩, hk.2⟩)) hg rfl (by have z1_ : 0 ≤ x4_2 := of_decide_eq_true (by first | (with_reducible assumption) | assumption); have z2_ : x4_2 < (x0_3.length : Int) := of_decide_eq_true (by first | (with_reducible assumption) | assumption); omega) (by decide) (by first | rfl | exact add_block _ _) (hHeld.2.2.1)
                      have HS3_ := Kd.V_afterv_cell (ok := (fun k_ => (P0_ k_ ∨ w.heap.size ≤ k_) ∧ some k_ ≠ (.slice Ao12 y560.length co12 : Value).ownBlock ∧ some k_ ≠ (v571 : Value).ownBlock)) (by (with_reducible repeat (first | apply Kd.V_alloc | apply Kd.V_drewN | apply Kd.V_drew)); exact Kd.V_mono HO_0.out (fun _ hk => ⟨⟨hk.1.1.1, ⟨hk.1.1.2, hk.1.2⟩⟩, hk.2⟩)) hg rfl (by have z1_ : 0 ≤ x4_2 := of_decide_eq_true (by first | (with_reducible assumption) | assumption); have z2_ : x4_2 < (x0_3.length : Int) := of_decide_eq_true (by first | (with_reducible assumption) | assumption); omega) (by decide) (by first | rfl | exact add_block _ _) (hHeld.2.2.2)
                      rw [← Ny566.out] at ho
                      have n0_ := Aside0.mk (Kd.V_afterv (ok := (fun k_ => (P0_ k_ ∨ w.heap.size ≤ k_) ∧ some k_ ≠ (.slice Ao12 y560.length co12 : Value).ownBlock ∧ some k_ ≠ (v571 : Value).ownBlock)) (by (with_reducible repeat (first | apply Kd.V_alloc | apply Kd.V_drewN | apply Kd.V_drew)); exact Kd.V_mono HO_0.out (fun _ hk => ⟨⟨hk.1.1.1, ⟨hk.1.1.2, hk.1.2⟩⟩, hk.2⟩)) hg hat)
                      have n1_ := Aside0.mk (Kd.R_after (ok := (fun k_ => (w.heap.size ≤ k_) ∧ some k_ ≠ (v571 : Value).ownBlock)) (by (with_reducible repeat (first | apply Kd.R_alloc | apply Kd.R_drewN | apply Kd.R_drew)); exact HO562.out) hg hat)
                      have n2_ := Aside0.mk (Kd.R_after (ok := (fun k_ => (w.heap.size ≤ k_) ∧ some k_ ≠ (.slice Ao12 y560.length co12 : Value).ownBlock)) (by (with_reducible repeat (first | apply Kd.R_alloc | apply Kd.R_drewN | apply Kd.R_drew)); exact Kd.R_mono HO572.out (fun _ hk => ⟨⟨hk.1.1.1, hk.1.2⟩, hk.2⟩)) hg hat)
                      have n3_ := Aside0.mk (hb)
                      have n4_ := Aside0.mk (ho)
                      clear HO_0
                      clear HO562
                      clear HO572
                      clear HB
                      clear HO565
                      have HO_0 := n0_
                      have HO562 := n1_
                      have HO572 := n2_
                      have HB := n3_
                      have HO568 := n4_
                      clear n0_ n1_ n2_ n3_ n4_
                      clear ho hb hg hat
                      refine hK.out _ _ ⟨HS0_, HS1_, HS2_, HS3_⟩ (fun hHeld => ?_)
                      clear hK K
                      refine norm_ (a' := ?_) ?_ ?_
                      rotate_left
                      · show Act.put _ (some 97) _ = _
                        simp only [Act.put, List.setIfInBounds_toArray, List.set_cons_zero, List.set_cons_succ, i64_w, i32_w]
                        rfl
                      exact norm_ (by simp only [putAll, Act.put, List.setIfInBounds_toArray, List.set_cons_zero, List.set_cons_succ]) (hCont (v564, v567, v571) _ ⟨hHeld, (by (with_reducible repeat (first | apply Kd.R_alloc | apply Kd.R_drewN | apply Kd.R_drew)); exact Kd.R_mono HO562.out (fun _ hk => ⟨hk.1.1, ⟨hk.2, hk.1.2⟩⟩)), (by (with_reducible repeat (first | apply Kd.R_alloc | apply Kd.R_drewN | apply Kd.R_drew)); exact HO568.out), (by (with_reducible repeat (first | apply Kd.R_alloc | apply Kd.R_drewN | apply Kd.R_drew)); exact Kd.R_mono HO572.out (fun _ hk => ⟨hk.1.1, ⟨hk.1.2, hk.2⟩⟩)), (by (with_reducible repeat (first | apply Kd.V_alloc | apply Kd.V_drewN | apply Kd.V_drew)); exact Kd.V_mono HO_0.out (fun _ hk => ⟨hk.1.1, ⟨hk.1.2.1, ⟨hk.2, hk.1.2.2⟩⟩⟩)), (by repeat (first | (with_reducible first | exact HB.out | apply below_alloc | apply pw_below_drewN | apply below_drew1) | exact HB.out))⟩)
                  rintro ⟨v564, v567, v571⟩ w57 ⟨hS_, h0_, h1_, h2_, h3_, h4_⟩
                  have n0_ : Aside0 (Kd.R k24 24 w57 w.heap.size (fun k_ => (w.heap.size ≤ k_) ∧ some k_ ≠ (v567 : Value).ownBlock ∧ some k_ ≠ (v571 : Value).ownBlock) (.slice Ao12 y560.length co12) y560) := ⟨h0_⟩
                  have n1_ : Aside0 (Kd.R k24 24 w57 w.heap.size (fun k_ => (w.heap.size ≤ k_) ∧ some k_ ≠ (.slice Ao12 y560.length co12 : Value).ownBlock ∧ some k_ ≠ (v571 : Value).ownBlock) v567 y566) := ⟨h1_⟩
                  have n2_ : Aside0 (Kd.R k24 24 w57 w.heap.size (fun k_ => (w.heap.size ≤ k_) ∧ some k_ ≠ (.slice Ao12 y560.length co12 : Value).ownBlock ∧ some k_ ≠ (v567 : Value).ownBlock) v571 y570) := ⟨h2_⟩
                  have n3_ : Aside0 (Kd.V k24 24 w57 w.heap.size (fun k_ => (P0_ k_ ∨ w.heap.size ≤ k_) ∧ some k_ ≠ (.slice Ao12 y560.length co12 : Value).ownBlock ∧ some k_ ≠ (v567 : Value).ownBlock ∧ some k_ ≠ (v571 : Value).ownBlock) (.slice (some ad569) x0_3.length co11) x0_3) := ⟨h3_⟩
                  have n4_ : Aside0 (Below w.heap.size w w57) := ⟨h4_⟩
                  clear HO_0
                  clear HO562
                  clear HB
                  clear h0_ h1_ h2_ h3_ h4_
                  have HO562 := n0_
                  have HO568 := n1_
                  have HO572 := n2_
                  have HO_0 := n3_
                  have HB := n4_
                  clear n0_ n1_ n2_ n3_ n4_
                  have hHeld : w57.cell? (ad569.add ((x4_2).toNat * 4)) = some (.int .i64 ((rd_T24 x0_3 x4_2).f0)) ∧ w57.cell? ⟨(ad569.add ((x4_2).toNat * 4)).block, (ad569.add ((x4_2).toNat * 4)).off + 1, none⟩ = some (.int .u32 ((rd_T24 x0_3 x4_2).f1)) ∧ w57.cell? ⟨(ad569.add ((x4_2).toNat * 4)).block, (ad569.add ((x4_2).toNat * 4)).off + 2, none⟩ = some (.int .u32 ((rd_T24 x0_3 x4_2).f2)) ∧ w57.cell? ⟨(ad569.add ((x4_2).toNat * 4)).block, (ad569.add ((x4_2).toNat * 4)).off + 3, none⟩ = some (.string ((rd_T24 x0_3 x4_2).f3)) := hS_
                  obtain ⟨Ao59, co59, eo59⟩ := Kd.R_slice HO572.out
                  (first | subst eo59 | (injection eo59 with f1_ f2_ f3_; have f4_ := f1_.symm; have f5_ := f3_.symm; clear f1_ f2_ f3_; subst f4_; subst f5_))
                  refine norm_ (a' := ?_) ?_ ?_
                  rotate_left
                  · simp only [putAll, Act.put, List.setIfInBounds_toArray, List.set_cons_zero, List.set_cons_succ]
                    rfl
                  refine one_ (i := 8) (N := some 103) #[true, true, true, true, true, true, true, true, true, false] rfl rfl (one_of HT_.out (by kernel_rfl)) (by decide) (fun K hK => ?_)
                  refine Kd.R_append_rows_step k24 (w0 := w) w.heap.size (by rfl) (.tmp 97) (.tmp 102) 27 24 (.agg #[(.int .i64 0), (.int .u32 0), (.int .u32 0), (.string ⟨#[]⟩)]) 32 rfl Try.underlying27 info24 rfl (by decide) (by omega) v567 y566 y570 _ _ _ (fun k_ => (w.heap.size ≤ k_) ∧ some k_ ≠ (.slice Ao12 y560.length co12 : Value).ownBlock ∧ some k_ ≠ (.slice Ao59 y570.length co59 : Value).ownBlock) (fun _ => False) rfl rfl ?aO ?aR (fun _ _ h => h) (fun _ h => h.elim) ?aF ?aB ?aS ?aL ?_
                  (case aR => repeat (first | exact (Kd.R_reads' HO572.out).2.2 | (with_reducible refine Kd.C_alloc ?_ _) | (with_reducible refine Kd.C_drewN ?_ _) | (with_reducible refine Kd.C_drew ?_)))
                  (case aB => exact (by repeat (first | (with_reducible first | exact HB.out | apply below_alloc | apply pw_below_drewN | apply below_drew1) | exact HB.out)))
                  (case aF => exact (fun k_ hk => ⟨(Nat.le_trans (below_size (by repeat (first | (with_reducible first | exact HB.out | apply below_alloc | apply pw_below_drewN | apply below_drew1) | exact HB.out))) hk), Kd.fresh' (Kd.R_lt (by (with_reducible repeat (first | apply Kd.R_alloc | apply Kd.R_drewN | apply Kd.R_drew)); exact HO562.out)) k_ hk, Kd.fresh' (Kd.R_lt (by (with_reducible repeat (first | apply Kd.R_alloc | apply Kd.R_drewN | apply Kd.R_drew)); exact HO572.out)) k_ hk⟩))
                  (case aO => exact (by (with_reducible repeat (first | apply Kd.R_alloc | apply Kd.R_drewN | apply Kd.R_drew)); exact HO568.out))
                  (case aS => exact (below_size (by repeat (first | (with_reducible first | exact HB.out | apply below_alloc | apply pw_below_drewN | apply below_drew1) | exact HB.out))))
                  (case aL => have := LMc49.out; omega)
                  intro v574 w58 ho hb hg hat
                  have HS0_ := Kd.V_afterv_cell (ok := (fun k_ => (P0_ k_ ∨ w.heap.size ≤ k_) ∧ some k_ ≠ (.slice Ao12 y560.length co12 : Value).ownBlock ∧ some k_ ≠ (.slice Ao59 y570.length co59 : Value).ownBlock)) (by (with_reducible repeat (first | apply Kd.V_alloc | apply Kd.V_drewN | apply Kd.V_drew)); exact Kd.V_mono HO_0.out (fun _ hk => ⟨⟨hk.1, ⟨hk.2.1, hk.2.2.2⟩⟩, hk.2.2.1⟩)) hg rfl (by have z1_ : 0 ≤ x4_2 := of_decide_eq_true (by first | (with_reducible assumption) | assumption); have z2_ : x4_2 < (x0_3.length : Int) := of_decide_eq_true (by first | (with_reducible assumption) | assumption); omega) (by decide) (by first | rfl | exact add_block _ _) (hHeld.1)
                  have HS1_ := Kd.V_afterv_cell (ok := (fun k_ => (P0_ k_ ∨ w.heap.size ≤ k_) ∧ some k_ ≠ (.slice Ao12 y560.length co12 : Value).ownBlock ∧ some k_ ≠ (.slice Ao59 y570.length co59 : Value).ownBlock)) (by (with_reducible repeat (first | apply Kd.V_alloc | apply Kd.V_drewN | apply Kd.V_drew)); exact Kd.V_mono HO_0.out (fun _ hk => ⟨⟨hk.1, ⟨hk.2.1, hk.2.2.2⟩⟩, hk.2.2.1⟩)) hg rfl (by have z1_ : 0 ≤ x4_2 := of_decide_eq_true (by first | (with_reducible assumption) | assumption); have z2_ : x4_2 < (x0_3.length : Int) := of_decide_eq_true (by first | (with_reducible assumption) | assumption); omega) (by decide) (by first | rfl | exact add_block _ _) (hHeld.2.1)
                  have HS2_ := Kd.V_afterv_cell (ok := (fun k_ => (P0_ k_ ∨ w.heap.size ≤ k_) ∧ some k_ ≠ (.slice Ao12 y560.length co12 : Value).ownBlock ∧ some k_ ≠ (.slice Ao59 y570.length co59 : Value).ownBlock)) (by (with_reducible repeat (first | apply Kd.V_alloc | apply Kd.V_drewN | apply Kd.V_drew)); exact Kd.V_mono HO_0.out (fun _ hk => ⟨⟨hk.1, ⟨hk.2.1, hk.2.2.2⟩⟩, hk.2.2.1⟩)) hg rfl (by have z1_ : 0 ≤ x4_2 := of_decide_eq_true (by first | (with_reducible assumption) | assumption); have z2_ : x4_2 < (x0_3.length : Int) := of_decide_eq_true (by first | (with_reducible assumption) | assumption); omega) (by decide) (by first | rfl | exact add_block _ _) (hHeld.2.2.1)
                  have HS3_ := Kd.V_afterv_cell (ok := (fun k_ => (P0_ k_ ∨ w.heap.size ≤ k_) ∧ some k_ ≠ (.slice Ao12 y560.length co12 : Value).ownBlock ∧ some k_ ≠ (.slice Ao59 y570.length co59 : Value).ownBlock)) (by (with_reducible repeat (first | apply Kd.V_alloc | apply Kd.V_drewN | apply Kd.V_drew)); exact Kd.V_mono HO_0.out (fun _ hk => ⟨⟨hk.1, ⟨hk.2.1, hk.2.2.2⟩⟩, hk.2.2.1⟩)) hg rfl (by have z1_ : 0 ≤ x4_2 := of_decide_eq_true (by first | (with_reducible assumption) | assumption); have z2_ : x4_2 < (x0_3.length : Int) := of_decide_eq_true (by first | (with_reducible assumption) | assumption); omega) (by decide) (by first | rfl | exact add_block _ _) (hHeld.2.2.2)
                  rw [← Ny573.out] at ho
                  have n0_ := Aside0.mk (Kd.V_afterv (ok := (fun k_ => (P0_ k_ ∨ w.heap.size ≤ k_) ∧ some k_ ≠ (.slice Ao12 y560.length co12 : Value).ownBlock ∧ some k_ ≠ (.slice Ao59 y570.length co59 : Value).ownBlock)) (by (with_reducible repeat (first | apply Kd.V_alloc | apply Kd.V_drewN | apply Kd.V_drew)); exact Kd.V_mono HO_0.out (fun _ hk => ⟨⟨hk.1, ⟨hk.2.1, hk.2.2.2⟩⟩, hk.2.2.1⟩)) hg hat)
                  have n1_ := Aside0.mk (Kd.R_after (ok := (fun k_ => (w.heap.size ≤ k_) ∧ some k_ ≠ (.slice Ao59 y570.length co59 : Value).ownBlock)) (by (with_reducible repeat (first | apply Kd.R_alloc | apply Kd.R_drewN | apply Kd.R_drew)); exact Kd.R_mono HO562.out (fun _ hk => ⟨⟨hk.1, hk.2.2⟩, hk.2.1⟩)) hg hat)
                  have n2_ := Aside0.mk (Kd.R_after (ok := (fun k_ => (w.heap.size ≤ k_) ∧ some k_ ≠ (.slice Ao12 y560.length co12 : Value).ownBlock)) (by (with_reducible repeat (first | apply Kd.R_alloc | apply Kd.R_drewN | apply Kd.R_drew)); exact Kd.R_mono HO572.out (fun _ hk => ⟨⟨hk.1, hk.2.1⟩, hk.2.2⟩)) hg hat)
                  have n3_ := Aside0.mk (hb)
                  have n4_ := Aside0.mk (ho)
                  clear HO_0
                  clear HO562
                  clear HO572
                  clear HB
                  clear HO568
                  have HO_0 := n0_
                  have HO562 := n1_
                  have HO572 := n2_
                  have HB := n3_
                  have HO575 := n4_
                  clear n0_ n1_ n2_ n3_ n4_
                  clear ho hb hg hat
                  refine hK.out _ _ ⟨HS0_, HS1_, HS2_, HS3_⟩ (fun hHeld => ?_)
                  clear hK K
                  refine norm_ (a' := ?_) ?_ ?_
                  rotate_left
                  · show Act.put _ (some 103) _ = _
                    simp only [Act.put, List.setIfInBounds_toArray, List.set_cons_zero, List.set_cons_succ, i64_w, i32_w]
                    rfl
                  refine pure_ (i := 9) (N := some 3) (v := ?_) (a' := ?_) #[true, true, true, true, true, true, true, true, true, true] rfl rfl (any_of HT_.out (by kernel_rfl)) (fun _ _ _ h => h) (Or.inl ⟨by rfl, ?_⟩) ?_ ?_
                  rotate_left
                  · intro w'
                    go_simp
                    with_reducible rfl
                  rotate_left
                  · simp only [Act.put, List.setIfInBounds_toArray, List.set_cons_zero, List.set_cons_succ, i64_w, i32_w]
                    rfl
                  refine done_ (done_of HT_.out (by kernel_rfl)) ?_
                  try go_wp2
                  go_roundg kj22
                  case measure => have := HJ3.out; have := HK2.out; have := HJ9.out; have := HJ22.out; omega
                  case rel => exact ⟨(y573), (wrap64 (x4_2 + 1)), (by first | rfl | (simp; done) | (simp [*]; done)), H', ⟨by have := HJ3.out; have := HK2.out; have := HJ9.out; have := HJ22.out; omega⟩, ⟨by (with_reducible repeat (first | apply Kd.V_alloc | apply Kd.V_drewN | apply Kd.V_drew)); exact Kd.V_mono HO_0.out (fun _ hk => ⟨hk.1.1, hk.2⟩)⟩, ⟨by (with_reducible repeat (first | apply Kd.R_alloc | apply Kd.R_drewN | apply Kd.R_drew)); exact Kd.R_mono HO575.out (fun _ hk => hk.1)⟩, ⟨by repeat (first | (with_reducible first | exact HB.out | apply below_alloc | apply pw_below_drewN | apply below_drew1) | exact HB.out)⟩⟩
                · rw [if_neg c49] at H
                  exact absurd H (by simp)
              · rw [if_neg c48] at H
                exact absurd H (by simp)
            · rw [if_neg c47] at H
              exact absurd H (by simp)
          · rw [if_neg c46] at H
            exact absurd H (by simp)
        · rw [if_neg c45] at H
          exact absurd H (by simp)
      · rw [if_neg c44] at H
        exact absurd H (by simp)
    · replace c42 := Bool.eq_false_iff.mpr c42
      subst c42
      have H1 : ((some (([] : List (S24)) : List (S24))).bind fun y576 => (if y576.length + x3_2.length < 4398046511104 then ((some (y576 ++ x3_2 : List (S24))).bind fun y579 => (if 0 ≤ x4_2 then (if x4_2 < (x0_3.length : Int) then ((some (([(⟨(rd_T24 x0_3 x4_2).f0, (rd_T24 x0_3 x4_2).f1, (rd_T24 x0_3 x4_2).f2, (rd_T24 x0_3 x4_2).f3⟩ : S24)] : List (S24)) : List (S24))).bind fun y583 => (if y579.length + y583.length < 4398046511104 then (croftlaw46_TrackStraight.l0 kj22 x0_3 (y579 ++ y583) (wrap64 (x4_2 + 1))) else (none))) else (none)) else (none))) else (none))) = some r := by rw [if_neg (show ¬ (false = true) by decide)] at H; exact H
      clear H
      have H := H1
      clear H1
      obtain ⟨y576, hy576⟩ : ∃ y_ : List (S24), y_ = (([] : List (S24))) := ⟨_, rfl⟩
      replace H : (if y576.length + x3_2.length < 4398046511104 then ((some (y576 ++ x3_2 : List (S24))).bind fun y579 => (if 0 ≤ x4_2 then (if x4_2 < (x0_3.length : Int) then ((some (([(⟨(rd_T24 x0_3 x4_2).f0, (rd_T24 x0_3 x4_2).f1, (rd_T24 x0_3 x4_2).f2, (rd_T24 x0_3 x4_2).f3⟩ : S24)] : List (S24)) : List (S24))).bind fun y583 => (if y579.length + y583.length < 4398046511104 then (croftlaw46_TrackStraight.l0 kj22 x0_3 (y579 ++ y583) (wrap64 (x4_2 + 1))) else (none))) else (none)) else (none))) else (none)) = some r := by first | (rw [hy576]; with_reducible exact H) | (have H2_ := (Option.bind_some _ _).symm.trans H; rw [hy576]; with_reducible exact H2_) | (have H2_ := (Option.bind_some _ _).symm.trans H; with_reducible exact H2_) | with_reducible exact H | (rw [hy576]; exact H) | exact H
      have Ny576 := Aside0.mk hy576
      clear hy576
      by_cases c60 : y576.length + x3_2.length < 4398046511104
      · rw [if_pos c60] at H
        have LMc60 := Aside0.mk c60
        clear c60
        obtain ⟨y579, hy579⟩ : ∃ y_ : List (S24), y_ = (y576 ++ x3_2) := ⟨_, rfl⟩
        replace H : (if 0 ≤ x4_2 then (if x4_2 < (x0_3.length : Int) then ((some (([(⟨(rd_T24 x0_3 x4_2).f0, (rd_T24 x0_3 x4_2).f1, (rd_T24 x0_3 x4_2).f2, (rd_T24 x0_3 x4_2).f3⟩ : S24)] : List (S24)) : List (S24))).bind fun y583 => (if y579.length + y583.length < 4398046511104 then (croftlaw46_TrackStraight.l0 kj22 x0_3 (y579 ++ y583) (wrap64 (x4_2 + 1))) else (none))) else (none)) else (none)) = some r := by first | (rw [hy579]; with_reducible exact H) | (have H2_ := (Option.bind_some _ _).symm.trans H; rw [hy579]; with_reducible exact H2_) | (have H2_ := (Option.bind_some _ _).symm.trans H; with_reducible exact H2_) | with_reducible exact H | (rw [hy579]; exact H) | exact H
        have Ny579 := Aside0.mk hy579
        clear hy579
        by_cases c61 : 0 ≤ x4_2
        · rw [if_pos c61] at H
          have c61b0 : decide (0 ≤ x4_2) = true := decide_eq_true c61
          clear c61
          by_cases c62 : x4_2 < (x0_3.length : Int)
          · rw [if_pos c62] at H
            have c62b0 : decide (x4_2 < (x0_3.length : Int)) = true := decide_eq_true c62
            clear c62
            obtain ⟨y583, hy583⟩ : ∃ y_ : List (S24), y_ = (([(⟨(rd_T24 x0_3 x4_2).f0, (rd_T24 x0_3 x4_2).f1, (rd_T24 x0_3 x4_2).f2, (rd_T24 x0_3 x4_2).f3⟩ : S24)] : List (S24))) := ⟨_, rfl⟩
            replace H : (if y579.length + y583.length < 4398046511104 then (croftlaw46_TrackStraight.l0 kj22 x0_3 (y579 ++ y583) (wrap64 (x4_2 + 1))) else (none)) = some r := by first | (rw [hy583]; with_reducible exact H) | (have H2_ := (Option.bind_some _ _).symm.trans H; rw [hy583]; with_reducible exact H2_) | (have H2_ := (Option.bind_some _ _).symm.trans H; with_reducible exact H2_) | with_reducible exact H | (rw [hy583]; exact H) | exact H
            have Ny583 := Aside0.mk hy583
            clear hy583
            by_cases c63 : y579.length + y583.length < 4398046511104
            · rw [if_pos c63] at H
              have LMc63 := Aside0.mk c63
              clear c63
              obtain ⟨y586, hy586⟩ : ∃ y_ : List (S24), y_ = (y579 ++ y583) := ⟨_, rfl⟩
              replace H : (croftlaw46_TrackStraight.l0 kj22 x0_3 y586 (wrap64 (x4_2 + 1))) = some r := by first | (rw [hy586]; with_reducible exact H) | (have H2_ := (Option.bind_some _ _).symm.trans H; rw [hy586]; with_reducible exact H2_) | (have H2_ := (Option.bind_some _ _).symm.trans H; with_reducible exact H2_) | with_reducible exact H | (rw [hy586]; exact H) | exact H
              have Ny586 := Aside0.mk hy586
              clear hy586
              have H' := Aside0.mk H
              clear H
              try go_wp2
              have n0_ := Aside0.mk (Kd.V_drew HO_0.out)
              have n1_ := Aside0.mk (Kd.R_drew HO_3.out)
              have n2_ := Aside0.mk (below_drew1 HB.out)
              clear HO_0
              clear HO_3
              clear HB
              have HO_0 := n0_
              have HO_3 := n1_
              have HB := n2_
              clear n0_ n1_ n2_
              have p582 : 0 ≤ (x4_2 : Int) := of_decide_eq_true (by first | (with_reducible assumption) | assumption)
              have q582 : x4_2 < (x0_3.length : Int) := of_decide_eq_true (by first | (with_reducible assumption) | assumption)
              obtain ⟨ad582, e582, hx582_0, hx582_1, hx582_2, hx582_3⟩ := at_T24 (Kd.V_reads' HO_0.out).2.2 x4_2 p582 q582
              cases e582
              replace p582 := eq_true p582
              replace q582 := eq_true q582
              refine start_ (n := 10) (S := fun w' => w'.cell? (ad582.add ((x4_2).toNat * 4)) = some (.int .i64 ((rd_T24 x0_3 x4_2).f0)) ∧ w'.cell? ⟨(ad582.add ((x4_2).toNat * 4)).block, (ad582.add ((x4_2).toNat * 4)).off + 1, none⟩ = some (.int .u32 ((rd_T24 x0_3 x4_2).f1)) ∧ w'.cell? ⟨(ad582.add ((x4_2).toNat * 4)).block, (ad582.add ((x4_2).toNat * 4)).off + 2, none⟩ = some (.int .u32 ((rd_T24 x0_3 x4_2).f2)) ∧ w'.cell? ⟨(ad582.add ((x4_2).toNat * 4)).block, (ad582.add ((x4_2).toNat * 4)).off + 3, none⟩ = some (.string ((rd_T24 x0_3 x4_2).f3))) (ds := []) #[false, false, false, false, false, false, false, false, false, false] (by kernel_rfl) rfl rfl ⟨hx582_0, hx582_1, hx582_2, hx582_3⟩ (fun hHeld => ?_); refine with_tabW croftlaw46_TrackStraight.tab13 croftlaw46_TrackStraight.bits13 (fun HT_ HW_ => ?_)
              generalize wc.drew = w64 at HO_0 HO_3 HB hx582_0 hx582_1 hx582_2 hx582_3 hHeld ⊢
              refine pure_ (i := 1) (N := some 96) (v := ?_) (a' := ?_) #[false, true, false, false, false, false, false, false, false, false] rfl rfl (any_of HT_.out (by kernel_rfl)) (fun _ _ _ h => h) (Or.inl ⟨by rfl, ?_⟩) ?_ ?_
              rotate_left
              · intro w'
                go_simp
                with_reducible rfl
              rotate_left
              · simp only [Act.put, List.setIfInBounds_toArray, List.set_cons_zero, List.set_cons_succ, i64_w, i32_w]
                rfl
              refine pure_ (i := 3) (N := some 98) (v := ?_) (a' := ?_) #[false, true, false, true, false, false, false, false, false, false] rfl rfl (any_of HT_.out (by kernel_rfl)) (fun _ _ _ h => h) (Or.inl ⟨by rfl, ?_⟩) ?_ ?_
              rotate_left
              · intro w'
                go_simp
                with_reducible rfl
              rotate_left
              · simp only [Act.put, List.setIfInBounds_toArray, List.set_cons_zero, List.set_cons_succ, i64_w, i32_w]
                rfl
              refine pure_ (i := 4) (N := some 99) (v := ?_) (a' := ?_) #[false, true, false, true, true, false, false, false, false, false] rfl rfl (any_of HT_.out (by kernel_rfl)) (fun _ _ _ h => h) (Or.inl ⟨by rfl, ?_⟩) ?_ ?_
              rotate_left
              · intro w'
                go_simp
                with_reducible rfl
              rotate_left
              · simp only [Act.put, List.setIfInBounds_toArray, List.set_cons_zero, List.set_cons_succ, i64_w, i32_w]
                rfl
              refine pure_ (i := 5) (N := some 100) (v := ?_) (a' := ?_) #[false, true, false, true, true, true, false, false, false, false] rfl rfl (any_of HT_.out (by kernel_rfl)) (fun _ _ _ h => h) (Or.inl ⟨by rfl, ?_⟩) ?_ ?_
              rotate_left
              · intro w'
                go_simp
                with_reducible rfl
              rotate_left
              · simp only [Act.put, List.setIfInBounds_toArray, List.set_cons_zero, List.set_cons_succ, i64_w, i32_w]
                rfl
              refine take_ (i := 6) (N := some 101) (v := ?_) (a' := ?_) #[false, true, false, true, true, true, true, false, false, false] rfl rfl (take_ofW HT_.out HW_.out (by kernel_rfl)) (fun _ _ _ h => h) (Or.inl ⟨by rfl, ?_⟩) hHeld ?_ ?_
              rotate_left
              · rintro w' ⟨s0, s1, s2, s3⟩
                go_simp
                with_reducible rfl
              rotate_left
              · simp only [Act.put, List.setIfInBounds_toArray, List.set_cons_zero, List.set_cons_succ, i64_w, i32_w]
                rfl
              refine join_ (σ := Value × Value × Value) 2 #[true, true, true, true, true, true, true, true, false, false] (fun s_ => [(95, s_.1), (97, s_.2.1), (102, s_.2.2)]) (fun s_ w' => (w'.cell? (ad582.add ((x4_2).toNat * 4)) = some (.int .i64 ((rd_T24 x0_3 x4_2).f0)) ∧ w'.cell? ⟨(ad582.add ((x4_2).toNat * 4)).block, (ad582.add ((x4_2).toNat * 4)).off + 1, none⟩ = some (.int .u32 ((rd_T24 x0_3 x4_2).f1)) ∧ w'.cell? ⟨(ad582.add ((x4_2).toNat * 4)).block, (ad582.add ((x4_2).toNat * 4)).off + 2, none⟩ = some (.int .u32 ((rd_T24 x0_3 x4_2).f2)) ∧ w'.cell? ⟨(ad582.add ((x4_2).toNat * 4)).block, (ad582.add ((x4_2).toNat * 4)).off + 3, none⟩ = some (.string ((rd_T24 x0_3 x4_2).f3))) ∧ (Kd.R k24 24 w' w.heap.size (fun k_ => (w.heap.size ≤ k_) ∧ some k_ ≠ (s_.2.2 : Value).ownBlock ∧ some k_ ≠ (.slice Ao12 x3_2.length co12 : Value).ownBlock) s_.2.1 y579) ∧ (Kd.R k24 24 w' w.heap.size (fun k_ => (w.heap.size ≤ k_) ∧ some k_ ≠ (s_.2.1 : Value).ownBlock ∧ some k_ ≠ (.slice Ao12 x3_2.length co12 : Value).ownBlock) s_.2.2 y583) ∧ (Kd.V k24 24 w' w.heap.size (fun k_ => (P0_ k_ ∨ w.heap.size ≤ k_) ∧ some k_ ≠ (s_.2.1 : Value).ownBlock ∧ some k_ ≠ (s_.2.2 : Value).ownBlock ∧ some k_ ≠ (.slice Ao12 x3_2.length co12 : Value).ownBlock) (.slice (some ad582) x0_3.length co11) x0_3) ∧ (Kd.R k24 24 w' w.heap.size (fun k_ => (w.heap.size ≤ k_) ∧ some k_ ≠ (s_.2.1 : Value).ownBlock ∧ some k_ ≠ (s_.2.2 : Value).ownBlock) (.slice Ao12 x3_2.length co12) x3_2) ∧ (Below w.heap.size w w')) ?_ ?_
              rotate_left
              · intro hCont
                refine two_ (i := 0) (j := 7) (Ni := some 95) (Nj := some 102) #[true, true, false, true, true, true, true, false, false, false] #[false, true, false, true, true, true, true, true, false, false] rfl rfl rfl rfl (two_of HT_.out (by kernel_rfl)) (by decide) (by decide) (fun K hK => ?_) (fun K hK => ?_)
                · skip
                  refine Kd.R_lit_step k24 _ 24 ?hg (N := 95) ?hd (xs := ([] : List (S24))) (inner := []) (ok := fun _ => True) (okp := fun _ => True) ?hr ?hp (fun _ hk => hk) trivial (Below.refl _ _) (Nat.le_refl _) (by simp) ?_; (case hd => rfl); (case hg => rfl); (case hr => first | (go_simp; done) | (go_simp; rfl)); (case hp => exact (Reps.none _ _))
                  intro v577 w65 ho66 hb hg_ hnew_
                  have HS0_ := (hb.cell (World.block_lt_of_cell? _ _ (hHeld.1))).trans (hHeld.1)
                  have HS1_ := (hb.cell (World.block_lt_of_cell? _ _ (hHeld.2.1))).trans (hHeld.2.1)
                  have HS2_ := (hb.cell (World.block_lt_of_cell? _ _ (hHeld.2.2.1))).trans (hHeld.2.2.1)
                  have HS3_ := (hb.cell (World.block_lt_of_cell? _ _ (hHeld.2.2.2))).trans (hHeld.2.2.2)
                  clear hg_ hnew_
                  (first | rw [← Ny576.out] at ho66 | (simp only [Int.reduceToNat] at ho66; rw [← Ny576.out] at ho66))
                  have n0_ := Aside0.mk (Kd.V_elder' (by (with_reducible repeat (first | apply Kd.V_alloc | apply Kd.V_drewN | apply Kd.V_drew)); exact HO_0.out) (Kd.R_base ho66) hb)
                  have n1_ := Aside0.mk (Kd.R_elder' (by (with_reducible repeat (first | apply Kd.R_alloc | apply Kd.R_drewN | apply Kd.R_drew)); exact HO_3.out) (Kd.R_base ho66) hb)
                  have n2_ := Aside0.mk (Kd.R_lower (Kd.R_new' (Kd.R_newM (M := fun k_ => (w.heap.size ≤ k_)) ho66 (below_size (by repeat (first | (with_reducible first | exact HB.out | apply below_alloc | apply pw_below_drewN | apply below_drew1) | exact HB.out))) (fun k_ h_ => h_)) (Kd.R_lt (by (with_reducible repeat (first | apply Kd.R_alloc | apply Kd.R_drewN | apply Kd.R_drew)); exact HO_3.out))) (below_size (by repeat (first | (with_reducible first | exact HB.out | apply below_alloc | apply pw_below_drewN | apply below_drew1) | exact HB.out))))
                  have n3_ := Aside0.mk (below_step (by repeat (first | (with_reducible first | exact HB.out | apply below_alloc | apply pw_below_drewN | apply below_drew1) | exact HB.out)) hb)
                  clear HO_0
                  clear HO_3
                  clear HB
                  have HO_0 := n0_
                  have HO_3 := n1_
                  have HO578 := n2_
                  have HB := n3_
                  clear n0_ n1_ n2_ n3_
                  clear hb ho66
                  refine hK.out _ _ ⟨HS0_, HS1_, HS2_, HS3_⟩ (fun hHeld => ?_)
                  clear hK K
                  refine norm_ (a' := ?_) ?_ ?_
                  rotate_left
                  · show Act.put _ (some 95) _ = _
                    simp only [Act.put, List.setIfInBounds_toArray, List.set_cons_zero, List.set_cons_succ, i64_w, i32_w]
                    rfl
                  refine two_ (i := 2) (j := 7) (Ni := some 97) (Nj := some 102) #[true, true, true, true, true, true, true, false, false, false] #[true, true, false, true, true, true, true, true, false, false] rfl rfl rfl rfl (two_of HT_.out (by kernel_rfl)) (by decide) (by decide) (fun K hK => ?_) (fun K hK => ?_)
                  · skip
                    refine Kd.R_append_rows_step k24 (w0 := w) w.heap.size (by rfl) (.tmp 95) (.tmp 96) 27 24 (.agg #[(.int .i64 0), (.int .u32 0), (.int .u32 0), (.string ⟨#[]⟩)]) 32 rfl Try.underlying27 info24 rfl (by decide) (by omega) v577 y576 x3_2 _ _ _ (fun k_ => (w.heap.size ≤ k_) ∧ some k_ ≠ (.slice Ao12 x3_2.length co12 : Value).ownBlock) (fun _ => False) rfl rfl ?aO ?aR (fun _ _ h => h) (fun _ h => h.elim) ?aF ?aB ?aS ?aL ?_
                    (case aR => repeat (first | exact (Kd.R_reads' HO_3.out).2.2 | (with_reducible refine Kd.C_alloc ?_ _) | (with_reducible refine Kd.C_drewN ?_ _) | (with_reducible refine Kd.C_drew ?_)))
                    (case aB => exact (by repeat (first | (with_reducible first | exact HB.out | apply below_alloc | apply pw_below_drewN | apply below_drew1) | exact HB.out)))
                    (case aF => exact (fun k_ hk => ⟨(Nat.le_trans (below_size (by repeat (first | (with_reducible first | exact HB.out | apply below_alloc | apply pw_below_drewN | apply below_drew1) | exact HB.out))) hk), Kd.fresh' (Kd.R_lt (by (with_reducible repeat (first | apply Kd.R_alloc | apply Kd.R_drewN | apply Kd.R_drew)); exact HO_3.out)) k_ hk⟩))
                    (case aO => exact (by (with_reducible repeat (first | apply Kd.R_alloc | apply Kd.R_drewN | apply Kd.R_drew)); exact Kd.R_mono HO578.out (fun _ hk => ⟨hk.1.1, hk.2⟩)))
                    (case aS => exact (below_size (by repeat (first | (with_reducible first | exact HB.out | apply below_alloc | apply pw_below_drewN | apply below_drew1) | exact HB.out))))
                    (case aL => have := LMc60.out; omega)
                    intro v580 w67 ho hb hg hat
                    have HS0_ := Kd.V_afterv_cell (by (with_reducible repeat (first | apply Kd.V_alloc | apply Kd.V_drewN | apply Kd.V_drew)); exact HO_0.out) hg rfl (by have z1_ : 0 ≤ x4_2 := of_decide_eq_true (by first | (with_reducible assumption) | assumption); have z2_ : x4_2 < (x0_3.length : Int) := of_decide_eq_true (by first | (with_reducible assumption) | assumption); omega) (by decide) (by first | rfl | exact add_block _ _) (hHeld.1)
                    have HS1_ := Kd.V_afterv_cell (by (with_reducible repeat (first | apply Kd.V_alloc | apply Kd.V_drewN | apply Kd.V_drew)); exact HO_0.out) hg rfl (by have z1_ : 0 ≤ x4_2 := of_decide_eq_true (by first | (with_reducible assumption) | assumption); have z2_ : x4_2 < (x0_3.length : Int) := of_decide_eq_true (by first | (with_reducible assumption) | assumption); omega) (by decide) (by first | rfl | exact add_block _ _) (hHeld.2.1)
                    have HS2_ := Kd.V_afterv_cell (by (with_reducible repeat (first | apply Kd.V_alloc | apply Kd.V_drewN | apply Kd.V_drew)); exact HO_0.out) hg rfl (by have z1_ : 0 ≤ x4_2 := of_decide_eq_true (by first | (with_reducible assumption) | assumption); have z2_ : x4_2 < (x0_3.length : Int) := of_decide_eq_true (by first | (with_reducible assumption) | assumption); omega) (by decide) (by first | rfl | exact add_block _ _) (hHeld.2.2.1)
                    have HS3_ := Kd.V_afterv_cell (by (with_reducible repeat (first | apply Kd.V_alloc | apply Kd.V_drewN | apply Kd.V_drew)); exact HO_0.out) hg rfl (by have z1_ : 0 ≤ x4_2 := of_decide_eq_true (by first | (with_reducible assumption) | assumption); have z2_ : x4_2 < (x0_3.length : Int) := of_decide_eq_true (by first | (with_reducible assumption) | assumption); omega) (by decide) (by first | rfl | exact add_block _ _) (hHeld.2.2.2)
                    rw [← Ny579.out] at ho
                    have n0_ := Aside0.mk (Kd.V_afterv (ok := (fun k_ => (P0_ k_ ∨ w.heap.size ≤ k_) ∧ some k_ ≠ (.slice Ao12 x3_2.length co12 : Value).ownBlock)) (by (with_reducible repeat (first | apply Kd.V_alloc | apply Kd.V_drewN | apply Kd.V_drew)); exact HO_0.out) hg hat)
                    have n1_ := Aside0.mk (Kd.R_after (ok := (fun k_ => (w.heap.size ≤ k_))) (by (with_reducible repeat (first | apply Kd.R_alloc | apply Kd.R_drewN | apply Kd.R_drew)); exact HO_3.out) hg hat)
                    have n2_ := Aside0.mk (hb)
                    have n3_ := Aside0.mk (ho)
                    clear HO_0
                    clear HO_3
                    clear HB
                    clear HO578
                    have HO_0 := n0_
                    have HO_3 := n1_
                    have HB := n2_
                    have HO581 := n3_
                    clear n0_ n1_ n2_ n3_
                    clear ho hb hg hat
                    refine hK.out _ _ ⟨HS0_, HS1_, HS2_, HS3_⟩ (fun hHeld => ?_)
                    clear hK K
                    refine norm_ (a' := ?_) ?_ ?_
                    rotate_left
                    · show Act.put _ (some 97) _ = _
                      simp only [Act.put, List.setIfInBounds_toArray, List.set_cons_zero, List.set_cons_succ, i64_w, i32_w]
                      rfl
                    refine one_ (i := 7) (N := some 102) #[true, true, true, true, true, true, true, true, false, false] rfl rfl (one_of HT_.out (by kernel_rfl)) (by decide) (fun K hK => ?_)
                    refine Kd.R_lit_step k24 _ 24 ?hg (N := 102) ?hd (xs := ([(⟨(rd_T24 x0_3 x4_2).f0, (rd_T24 x0_3 x4_2).f1, (rd_T24 x0_3 x4_2).f2, (rd_T24 x0_3 x4_2).f3⟩ : S24)] : List (S24))) (inner := [.int .i64 ((rd_T24 x0_3 x4_2).f0), .int .u32 ((rd_T24 x0_3 x4_2).f1), .int .u32 ((rd_T24 x0_3 x4_2).f2), .string ((rd_T24 x0_3 x4_2).f3)]) (ok := fun _ => True) (okp := fun _ => True) ?hr ?hp (fun _ hk => hk) trivial (Below.refl _ _) (Nat.le_refl _) (by simp) ?_; (case hd => rfl); (case hg => rfl); (case hr => first | (go_simp; done) | (go_simp; rfl)); (case hp => exact (Reps.c4 (show Kd.M k24 _ _ _ (⟨(rd_T24 x0_3 x4_2).f0, (rd_T24 x0_3 x4_2).f1, (rd_T24 x0_3 x4_2).f2, (rd_T24 x0_3 x4_2).f3⟩ : S24) [.int .i64 ((rd_T24 x0_3 x4_2).f0), .int .u32 ((rd_T24 x0_3 x4_2).f1), .int .u32 ((rd_T24 x0_3 x4_2).f2), .string ((rd_T24 x0_3 x4_2).f3)] from (k24_mkM _ _ _ (⟨(rd_T24 x0_3 x4_2).f0, (rd_T24 x0_3 x4_2).f1, (rd_T24 x0_3 x4_2).f2, (rd_T24 x0_3 x4_2).f3⟩ : S24) )) (Reps.none _ _)))
                    intro v584 w68 ho69 hb hg_ hnew_
                    have HS0_ := (hb.cell (World.block_lt_of_cell? _ _ (hHeld.1))).trans (hHeld.1)
                    have HS1_ := (hb.cell (World.block_lt_of_cell? _ _ (hHeld.2.1))).trans (hHeld.2.1)
                    have HS2_ := (hb.cell (World.block_lt_of_cell? _ _ (hHeld.2.2.1))).trans (hHeld.2.2.1)
                    have HS3_ := (hb.cell (World.block_lt_of_cell? _ _ (hHeld.2.2.2))).trans (hHeld.2.2.2)
                    clear hg_ hnew_
                    (first | rw [← Ny583.out] at ho69 | (simp only [Int.reduceToNat] at ho69; rw [← Ny583.out] at ho69))
                    have n0_ := Aside0.mk (Kd.V_elder' (by (with_reducible repeat (first | apply Kd.V_alloc | apply Kd.V_drewN | apply Kd.V_drew)); exact HO_0.out) (Kd.R_base ho69) hb)
                    have n1_ := Aside0.mk (Kd.R_elder' (by (with_reducible repeat (first | apply Kd.R_alloc | apply Kd.R_drewN | apply Kd.R_drew)); exact HO_3.out) (Kd.R_base ho69) hb)
                    have n2_ := Aside0.mk (Kd.R_elder' (by (with_reducible repeat (first | apply Kd.R_alloc | apply Kd.R_drewN | apply Kd.R_drew)); exact HO581.out) (Kd.R_base ho69) hb)
                    have n3_ := Aside0.mk (Kd.R_lower (Kd.R_new' (Kd.R_new' (Kd.R_newM (M := fun k_ => (w.heap.size ≤ k_)) ho69 (below_size (by repeat (first | (with_reducible first | exact HB.out | apply below_alloc | apply pw_below_drewN | apply below_drew1) | exact HB.out))) (fun k_ h_ => h_)) (Kd.R_lt (by (with_reducible repeat (first | apply Kd.R_alloc | apply Kd.R_drewN | apply Kd.R_drew)); exact HO_3.out))) (Kd.R_lt (by (with_reducible repeat (first | apply Kd.R_alloc | apply Kd.R_drewN | apply Kd.R_drew)); exact HO581.out))) (below_size (by repeat (first | (with_reducible first | exact HB.out | apply below_alloc | apply pw_below_drewN | apply below_drew1) | exact HB.out))))
                    have n4_ := Aside0.mk (below_step (by repeat (first | (with_reducible first | exact HB.out | apply below_alloc | apply pw_below_drewN | apply below_drew1) | exact HB.out)) hb)
                    clear HO_0
                    clear HO_3
                    clear HO581
                    clear HB
                    have HO_0 := n0_
                    have HO_3 := n1_
                    have HO581 := n2_
                    have HO585 := n3_
                    have HB := n4_
                    clear n0_ n1_ n2_ n3_ n4_
                    clear hb ho69
                    refine hK.out _ _ ⟨HS0_, HS1_, HS2_, HS3_⟩ (fun hHeld => ?_)
                    clear hK K
                    refine norm_ (a' := ?_) ?_ ?_
                    rotate_left
                    · show Act.put _ (some 102) _ = _
                      simp only [Act.put, List.setIfInBounds_toArray, List.set_cons_zero, List.set_cons_succ, i64_w, i32_w]
                      rfl
                    exact norm_ (by simp only [putAll, Act.put, List.setIfInBounds_toArray, List.set_cons_zero, List.set_cons_succ]) (hCont (v577, v580, v584) _ ⟨hHeld, (by (with_reducible repeat (first | apply Kd.R_alloc | apply Kd.R_drewN | apply Kd.R_drew)); exact Kd.R_mono HO581.out (fun _ hk => ⟨hk.1.1, ⟨hk.2, hk.1.2⟩⟩)), (by (with_reducible repeat (first | apply Kd.R_alloc | apply Kd.R_drewN | apply Kd.R_drew)); exact Kd.R_mono HO585.out (fun _ hk => ⟨hk.1.1.1, ⟨hk.2, hk.1.2⟩⟩)), (by (with_reducible repeat (first | apply Kd.V_alloc | apply Kd.V_drewN | apply Kd.V_drew)); exact Kd.V_mono HO_0.out (fun _ hk => ⟨hk.1.1.1, ⟨hk.1.2, ⟨hk.2, hk.1.1.2⟩⟩⟩)), (by (with_reducible repeat (first | apply Kd.R_alloc | apply Kd.R_drewN | apply Kd.R_drew)); exact Kd.R_mono HO_3.out (fun _ hk => ⟨hk.1.1, ⟨hk.1.2, hk.2⟩⟩)), (by repeat (first | (with_reducible first | exact HB.out | apply below_alloc | apply pw_below_drewN | apply below_drew1) | exact HB.out))⟩)
                  · skip
                    refine Kd.R_lit_step k24 _ 24 ?hg (N := 102) ?hd (xs := ([(⟨(rd_T24 x0_3 x4_2).f0, (rd_T24 x0_3 x4_2).f1, (rd_T24 x0_3 x4_2).f2, (rd_T24 x0_3 x4_2).f3⟩ : S24)] : List (S24))) (inner := [.int .i64 ((rd_T24 x0_3 x4_2).f0), .int .u32 ((rd_T24 x0_3 x4_2).f1), .int .u32 ((rd_T24 x0_3 x4_2).f2), .string ((rd_T24 x0_3 x4_2).f3)]) (ok := fun _ => True) (okp := fun _ => True) ?hr ?hp (fun _ hk => hk) trivial (Below.refl _ _) (Nat.le_refl _) (by simp) ?_; (case hd => rfl); (case hg => rfl); (case hr => first | (go_simp; done) | (go_simp; rfl)); (case hp => exact (Reps.c4 (show Kd.M k24 _ _ _ (⟨(rd_T24 x0_3 x4_2).f0, (rd_T24 x0_3 x4_2).f1, (rd_T24 x0_3 x4_2).f2, (rd_T24 x0_3 x4_2).f3⟩ : S24) [.int .i64 ((rd_T24 x0_3 x4_2).f0), .int .u32 ((rd_T24 x0_3 x4_2).f1), .int .u32 ((rd_T24 x0_3 x4_2).f2), .string ((rd_T24 x0_3 x4_2).f3)] from (k24_mkM _ _ _ (⟨(rd_T24 x0_3 x4_2).f0, (rd_T24 x0_3 x4_2).f1, (rd_T24 x0_3 x4_2).f2, (rd_T24 x0_3 x4_2).f3⟩ : S24) )) (Reps.none _ _)))
                    intro v584 w67 ho68 hb hg_ hnew_
                    have HS0_ := (hb.cell (World.block_lt_of_cell? _ _ (hHeld.1))).trans (hHeld.1)
                    have HS1_ := (hb.cell (World.block_lt_of_cell? _ _ (hHeld.2.1))).trans (hHeld.2.1)
                    have HS2_ := (hb.cell (World.block_lt_of_cell? _ _ (hHeld.2.2.1))).trans (hHeld.2.2.1)
                    have HS3_ := (hb.cell (World.block_lt_of_cell? _ _ (hHeld.2.2.2))).trans (hHeld.2.2.2)
                    clear hg_ hnew_
                    (first | rw [← Ny583.out] at ho68 | (simp only [Int.reduceToNat] at ho68; rw [← Ny583.out] at ho68))
                    have n0_ := Aside0.mk (Kd.V_elder' (by (with_reducible repeat (first | apply Kd.V_alloc | apply Kd.V_drewN | apply Kd.V_drew)); exact HO_0.out) (Kd.R_base ho68) hb)
                    have n1_ := Aside0.mk (Kd.R_elder' (by (with_reducible repeat (first | apply Kd.R_alloc | apply Kd.R_drewN | apply Kd.R_drew)); exact HO_3.out) (Kd.R_base ho68) hb)
                    have n2_ := Aside0.mk (Kd.R_elder' (by (with_reducible repeat (first | apply Kd.R_alloc | apply Kd.R_drewN | apply Kd.R_drew)); exact HO578.out) (Kd.R_base ho68) hb)
                    have n3_ := Aside0.mk (Kd.R_lower (Kd.R_new' (Kd.R_new' (Kd.R_newM (M := fun k_ => (w.heap.size ≤ k_)) ho68 (below_size (by repeat (first | (with_reducible first | exact HB.out | apply below_alloc | apply pw_below_drewN | apply below_drew1) | exact HB.out))) (fun k_ h_ => h_)) (Kd.R_lt (by (with_reducible repeat (first | apply Kd.R_alloc | apply Kd.R_drewN | apply Kd.R_drew)); exact HO_3.out))) (Kd.R_lt (by (with_reducible repeat (first | apply Kd.R_alloc | apply Kd.R_drewN | apply Kd.R_drew)); exact HO578.out))) (below_size (by repeat (first | (with_reducible first | exact HB.out | apply below_alloc | apply pw_below_drewN | apply below_drew1) | exact HB.out))))
                    have n4_ := Aside0.mk (below_step (by repeat (first | (with_reducible first | exact HB.out | apply below_alloc | apply pw_below_drewN | apply below_drew1) | exact HB.out)) hb)
                    clear HO_0
                    clear HO_3
                    clear HO578
                    clear HB
                    have HO_0 := n0_
                    have HO_3 := n1_
                    have HO578 := n2_
                    have HO585 := n3_
                    have HB := n4_
                    clear n0_ n1_ n2_ n3_ n4_
                    clear hb ho68
                    refine hK.out _ _ ⟨HS0_, HS1_, HS2_, HS3_⟩ (fun hHeld => ?_)
                    clear hK K
                    refine norm_ (a' := ?_) ?_ ?_
                    rotate_left
                    · show Act.put _ (some 102) _ = _
                      simp only [Act.put, List.setIfInBounds_toArray, List.set_cons_zero, List.set_cons_succ, i64_w, i32_w]
                      rfl
                    refine one_ (i := 2) (N := some 97) #[true, true, true, true, true, true, true, true, false, false] rfl rfl (one_of HT_.out (by kernel_rfl)) (by decide) (fun K hK => ?_)
                    refine Kd.R_append_rows_step k24 (w0 := w) w.heap.size (by rfl) (.tmp 95) (.tmp 96) 27 24 (.agg #[(.int .i64 0), (.int .u32 0), (.int .u32 0), (.string ⟨#[]⟩)]) 32 rfl Try.underlying27 info24 rfl (by decide) (by omega) v577 y576 x3_2 _ _ _ (fun k_ => (w.heap.size ≤ k_) ∧ some k_ ≠ (.slice Ao12 x3_2.length co12 : Value).ownBlock ∧ some k_ ≠ (v584 : Value).ownBlock) (fun _ => False) rfl rfl ?aO ?aR (fun _ _ h => h) (fun _ h => h.elim) ?aF ?aB ?aS ?aL ?_
                    (case aR => repeat (first | exact (Kd.R_reads' HO_3.out).2.2 | (with_reducible refine Kd.C_alloc ?_ _) | (with_reducible refine Kd.C_drewN ?_ _) | (with_reducible refine Kd.C_drew ?_)))
                    (case aB => exact (by repeat (first | (with_reducible first | exact HB.out | apply below_alloc | apply pw_below_drewN | apply below_drew1) | exact HB.out)))
                    (case aF => exact (fun k_ hk => ⟨(Nat.le_trans (below_size (by repeat (first | (with_reducible first | exact HB.out | apply below_alloc | apply pw_below_drewN | apply below_drew1) | exact HB.out))) hk), Kd.fresh' (Kd.R_lt (by (with_reducible repeat (first | apply Kd.R_alloc | apply Kd.R_drewN | apply Kd.R_drew)); exact HO_3.out)) k_ hk, Kd.fresh' (Kd.R_lt (by (with_reducible repeat (first | apply Kd.R_alloc | apply Kd.R_drewN | apply Kd.R_drew)); exact HO585.out)) k_ hk⟩))
                    (case aO => exact (by (with_reducible repeat (first | apply Kd.R_alloc | apply Kd.R_drewN | apply Kd.R_drew)); exact Kd.R_mono HO578.out (fun _ hk => ⟨hk.1.1.1, ⟨hk.1.2, hk.2⟩⟩)))
                    (case aS => exact (below_size (by repeat (first | (with_reducible first | exact HB.out | apply below_alloc | apply pw_below_drewN | apply below_drew1) | exact HB.out))))
                    (case aL => have := LMc60.out; omega)
                    intro v580 w69 ho hb hg hat
                    have HS0_ := Kd.V_afterv_cell (ok := (fun k_ => (P0_ k_ ∨ w.heap.size ≤ k_) ∧ some k_ ≠ (.slice Ao12 x3_2.length co12 : Value).ownBlock ∧ some k_ ≠ (v584 : Value).ownBlock)) (by (with_reducible repeat (first | apply Kd.V_alloc | apply Kd.V_drewN | apply Kd.V_drew)); exact Kd.V_mono HO_0.out (fun _ hk => ⟨⟨hk.1.1.1, ⟨hk.1.1.2, hk.2⟩⟩, hk.1.2⟩)) hg rfl (by have z1_ : 0 ≤ x4_2 := of_decide_eq_true (by first | (with_reducible assumption) | assumption); have z2_ : x4_2 < (x0_3.length : Int) := of_decide_eq_true (by first | (with_reducible assumption) | assumption); omega) (by decide) (by first | rfl | exact add_block _ _) (hHeld.1)
                    have HS1_ := Kd.V_afterv_cell (ok := (fun k_ => (P0_ k_ ∨ w.heap.size ≤ k_) ∧ some k_ ≠ (.slice Ao12 x3_2.length co12 : Value).ownBlock ∧ some k_ ≠ (v584 : Value).ownBlock)) (by (with_reducible repeat (first | apply Kd.V_alloc | apply Kd.V_drewN | apply Kd.V_drew)); exact Kd.V_mono HO_0.out (fun _ hk => ⟨⟨hk.1.1.1, ⟨hk.1.1.2, hk.2⟩⟩, hk.1.2⟩)) hg rfl (by have z1_ : 0 ≤ x4_2 := of_decide_eq_true (by first | (with_reducible assumption) | assumption); have z2_ : x4_2 < (x0_3.length : Int) := of_decide_eq_true (by first | (with_reducible assumption) | assumption); omega) (by decide) (by first | rfl | exact add_block _ _) (hHeld.2.1)
                    have HS2_ := Kd.V_afterv_cell (ok := (fun k_ => (P0_ k_ ∨ w.heap.size ≤ k_) ∧ some k_ ≠ (.slice Ao12 x3_2.length co12 : Value).ownBlock ∧ some k_ ≠ (v584 : Value).ownBlock)) (by (with_reducible repeat (first | apply Kd.V_alloc | apply Kd.V_drewN | apply Kd.V_drew)); exact Kd.V_mono HO_0.out (fun _ hk => ⟨⟨hk.1.1.1, ⟨hk.1.1.2, hk.2⟩⟩, hk.1.2⟩)) hg rfl (by have z1_ : 0 ≤ x4_2 := of_decide_eq_true (by first | (with_reducible assumption) | assumption); have z2_ : x4_2 < (x0_3.length : Int) := of_decide_eq_true (by first | (with_reducible assumption) | assumption); omega) (by decide) (by first | rfl | exact add_block _ _) (hHeld.2.2.1)
                    have HS3_ := Kd.V_afterv_cell (ok := (fun k_ => (P0_ k_ ∨ w.heap.size ≤ k_) ∧ some k_ ≠ (.slice Ao12 x3_2.length co12 : Value).ownBlock ∧ some k_ ≠ (v584 : Value).ownBlock)) (by (with_reducible repeat (first | apply Kd.V_alloc | apply Kd.V_drewN | apply Kd.V_drew)); exact Kd.V_mono HO_0.out (fun _ hk => ⟨⟨hk.1.1.1, ⟨hk.1.1.2, hk.2⟩⟩, hk.1.2⟩)) hg rfl (by have z1_ : 0 ≤ x4_2 := of_decide_eq_true (by first | (with_reducible assumption) | assumption); have z2_ : x4_2 < (x0_3.length : Int) := of_decide_eq_true (by first | (with_reducible assumption) | assumption); omega) (by decide) (by first | rfl | exact add_block _ _) (hHeld.2.2.2)
                    rw [← Ny579.out] at ho
                    have n0_ := Aside0.mk (Kd.V_afterv (ok := (fun k_ => (P0_ k_ ∨ w.heap.size ≤ k_) ∧ some k_ ≠ (.slice Ao12 x3_2.length co12 : Value).ownBlock ∧ some k_ ≠ (v584 : Value).ownBlock)) (by (with_reducible repeat (first | apply Kd.V_alloc | apply Kd.V_drewN | apply Kd.V_drew)); exact Kd.V_mono HO_0.out (fun _ hk => ⟨⟨hk.1.1.1, ⟨hk.1.1.2, hk.2⟩⟩, hk.1.2⟩)) hg hat)
                    have n1_ := Aside0.mk (Kd.R_after (ok := (fun k_ => (w.heap.size ≤ k_) ∧ some k_ ≠ (v584 : Value).ownBlock)) (by (with_reducible repeat (first | apply Kd.R_alloc | apply Kd.R_drewN | apply Kd.R_drew)); exact Kd.R_mono HO_3.out (fun _ hk => ⟨⟨hk.1.1, hk.2⟩, hk.1.2⟩)) hg hat)
                    have n2_ := Aside0.mk (Kd.R_after (ok := (fun k_ => (w.heap.size ≤ k_) ∧ some k_ ≠ (.slice Ao12 x3_2.length co12 : Value).ownBlock)) (by (with_reducible repeat (first | apply Kd.R_alloc | apply Kd.R_drewN | apply Kd.R_drew)); exact Kd.R_mono HO585.out (fun _ hk => ⟨⟨hk.1.1.1, hk.1.2⟩, hk.2⟩)) hg hat)
                    have n3_ := Aside0.mk (hb)
                    have n4_ := Aside0.mk (ho)
                    clear HO_0
                    clear HO_3
                    clear HO585
                    clear HB
                    clear HO578
                    have HO_0 := n0_
                    have HO_3 := n1_
                    have HO585 := n2_
                    have HB := n3_
                    have HO581 := n4_
                    clear n0_ n1_ n2_ n3_ n4_
                    clear ho hb hg hat
                    refine hK.out _ _ ⟨HS0_, HS1_, HS2_, HS3_⟩ (fun hHeld => ?_)
                    clear hK K
                    refine norm_ (a' := ?_) ?_ ?_
                    rotate_left
                    · show Act.put _ (some 97) _ = _
                      simp only [Act.put, List.setIfInBounds_toArray, List.set_cons_zero, List.set_cons_succ, i64_w, i32_w]
                      rfl
                    exact norm_ (by simp only [putAll, Act.put, List.setIfInBounds_toArray, List.set_cons_zero, List.set_cons_succ]) (hCont (v577, v580, v584) _ ⟨hHeld, (by (with_reducible repeat (first | apply Kd.R_alloc | apply Kd.R_drewN | apply Kd.R_drew)); exact Kd.R_mono HO581.out (fun _ hk => ⟨hk.1, ⟨hk.2.2, hk.2.1⟩⟩)), (by (with_reducible repeat (first | apply Kd.R_alloc | apply Kd.R_drewN | apply Kd.R_drew)); exact Kd.R_mono HO585.out (fun _ hk => ⟨hk.1.1, ⟨hk.2, hk.1.2⟩⟩)), (by (with_reducible repeat (first | apply Kd.V_alloc | apply Kd.V_drewN | apply Kd.V_drew)); exact Kd.V_mono HO_0.out (fun _ hk => ⟨hk.1.1, ⟨hk.2, ⟨hk.1.2.2, hk.1.2.1⟩⟩⟩)), (by (with_reducible repeat (first | apply Kd.R_alloc | apply Kd.R_drewN | apply Kd.R_drew)); exact Kd.R_mono HO_3.out (fun _ hk => ⟨hk.1.1, ⟨hk.2, hk.1.2⟩⟩)), (by repeat (first | (with_reducible first | exact HB.out | apply below_alloc | apply pw_below_drewN | apply below_drew1) | exact HB.out))⟩)
                · skip
                  refine Kd.R_lit_step k24 _ 24 ?hg (N := 102) ?hd (xs := ([(⟨(rd_T24 x0_3 x4_2).f0, (rd_T24 x0_3 x4_2).f1, (rd_T24 x0_3 x4_2).f2, (rd_T24 x0_3 x4_2).f3⟩ : S24)] : List (S24))) (inner := [.int .i64 ((rd_T24 x0_3 x4_2).f0), .int .u32 ((rd_T24 x0_3 x4_2).f1), .int .u32 ((rd_T24 x0_3 x4_2).f2), .string ((rd_T24 x0_3 x4_2).f3)]) (ok := fun _ => True) (okp := fun _ => True) ?hr ?hp (fun _ hk => hk) trivial (Below.refl _ _) (Nat.le_refl _) (by simp) ?_; (case hd => rfl); (case hg => rfl); (case hr => first | (go_simp; done) | (go_simp; rfl)); (case hp => exact (Reps.c4 (show Kd.M k24 _ _ _ (⟨(rd_T24 x0_3 x4_2).f0, (rd_T24 x0_3 x4_2).f1, (rd_T24 x0_3 x4_2).f2, (rd_T24 x0_3 x4_2).f3⟩ : S24) [.int .i64 ((rd_T24 x0_3 x4_2).f0), .int .u32 ((rd_T24 x0_3 x4_2).f1), .int .u32 ((rd_T24 x0_3 x4_2).f2), .string ((rd_T24 x0_3 x4_2).f3)] from (k24_mkM _ _ _ (⟨(rd_T24 x0_3 x4_2).f0, (rd_T24 x0_3 x4_2).f1, (rd_T24 x0_3 x4_2).f2, (rd_T24 x0_3 x4_2).f3⟩ : S24) )) (Reps.none _ _)))
                  intro v584 w65 ho66 hb hg_ hnew_
                  have HS0_ := (hb.cell (World.block_lt_of_cell? _ _ (hHeld.1))).trans (hHeld.1)
                  have HS1_ := (hb.cell (World.block_lt_of_cell? _ _ (hHeld.2.1))).trans (hHeld.2.1)
                  have HS2_ := (hb.cell (World.block_lt_of_cell? _ _ (hHeld.2.2.1))).trans (hHeld.2.2.1)
                  have HS3_ := (hb.cell (World.block_lt_of_cell? _ _ (hHeld.2.2.2))).trans (hHeld.2.2.2)
                  clear hg_ hnew_
                  (first | rw [← Ny583.out] at ho66 | (simp only [Int.reduceToNat] at ho66; rw [← Ny583.out] at ho66))
                  have n0_ := Aside0.mk (Kd.V_elder' (by (with_reducible repeat (first | apply Kd.V_alloc | apply Kd.V_drewN | apply Kd.V_drew)); exact HO_0.out) (Kd.R_base ho66) hb)
                  have n1_ := Aside0.mk (Kd.R_elder' (by (with_reducible repeat (first | apply Kd.R_alloc | apply Kd.R_drewN | apply Kd.R_drew)); exact HO_3.out) (Kd.R_base ho66) hb)
                  have n2_ := Aside0.mk (Kd.R_lower (Kd.R_new' (Kd.R_newM (M := fun k_ => (w.heap.size ≤ k_)) ho66 (below_size (by repeat (first | (with_reducible first | exact HB.out | apply below_alloc | apply pw_below_drewN | apply below_drew1) | exact HB.out))) (fun k_ h_ => h_)) (Kd.R_lt (by (with_reducible repeat (first | apply Kd.R_alloc | apply Kd.R_drewN | apply Kd.R_drew)); exact HO_3.out))) (below_size (by repeat (first | (with_reducible first | exact HB.out | apply below_alloc | apply pw_below_drewN | apply below_drew1) | exact HB.out))))
                  have n3_ := Aside0.mk (below_step (by repeat (first | (with_reducible first | exact HB.out | apply below_alloc | apply pw_below_drewN | apply below_drew1) | exact HB.out)) hb)
                  clear HO_0
                  clear HO_3
                  clear HB
                  have HO_0 := n0_
                  have HO_3 := n1_
                  have HO585 := n2_
                  have HB := n3_
                  clear n0_ n1_ n2_ n3_
                  clear hb ho66
                  refine hK.out _ _ ⟨HS0_, HS1_, HS2_, HS3_⟩ (fun hHeld => ?_)
                  clear hK K
                  refine norm_ (a' := ?_) ?_ ?_
                  rotate_left
                  · show Act.put _ (some 102) _ = _
                    simp only [Act.put, List.setIfInBounds_toArray, List.set_cons_zero, List.set_cons_succ, i64_w, i32_w]
                    rfl
                  refine one_ (i := 0) (N := some 95) #[true, true, false, true, true, true, true, true, false, false] rfl rfl (one_of HT_.out (by kernel_rfl)) (by decide) (fun K hK => ?_)
                  refine Kd.R_lit_step k24 _ 24 ?hg (N := 95) ?hd (xs := ([] : List (S24))) (inner := []) (ok := fun _ => True) (okp := fun _ => True) ?hr ?hp (fun _ hk => hk) trivial (Below.refl _ _) (Nat.le_refl _) (by simp) ?_; (case hd => rfl); (case hg => rfl); (case hr => first | (go_simp; done) | (go_simp; rfl)); (case hp => exact (Reps.none _ _))
                  intro v577 w67 ho68 hb hg_ hnew_
                  have HS0_ := (hb.cell (World.block_lt_of_cell? _ _ (hHeld.1))).trans (hHeld.1)
                  have HS1_ := (hb.cell (World.block_lt_of_cell? _ _ (hHeld.2.1))).trans (hHeld.2.1)
                  have HS2_ := (hb.cell (World.block_lt_of_cell? _ _ (hHeld.2.2.1))).trans (hHeld.2.2.1)
                  have HS3_ := (hb.cell (World.block_lt_of_cell? _ _ (hHeld.2.2.2))).trans (hHeld.2.2.2)
                  clear hg_ hnew_
                  (first | rw [← Ny576.out] at ho68 | (simp only [Int.reduceToNat] at ho68; rw [← Ny576.out] at ho68))
                  have n0_ := Aside0.mk (Kd.V_elder' (by (with_reducible repeat (first | apply Kd.V_alloc | apply Kd.V_drewN | apply Kd.V_drew)); exact HO_0.out) (Kd.R_base ho68) hb)
                  have n1_ := Aside0.mk (Kd.R_elder' (by (with_reducible repeat (first | apply Kd.R_alloc | apply Kd.R_drewN | apply Kd.R_drew)); exact HO_3.out) (Kd.R_base ho68) hb)
                  have n2_ := Aside0.mk (Kd.R_elder' (by (with_reducible repeat (first | apply Kd.R_alloc | apply Kd.R_drewN | apply Kd.R_drew)); exact HO585.out) (Kd.R_base ho68) hb)
                  have n3_ := Aside0.mk (Kd.R_lower (Kd.R_new' (Kd.R_new' (Kd.R_newM (M := fun k_ => (w.heap.size ≤ k_)) ho68 (below_size (by repeat (first | (with_reducible first | exact HB.out | apply below_alloc | apply pw_below_drewN | apply below_drew1) | exact HB.out))) (fun k_ h_ => h_)) (Kd.R_lt (by (with_reducible repeat (first | apply Kd.R_alloc | apply Kd.R_drewN | apply Kd.R_drew)); exact HO_3.out))) (Kd.R_lt (by (with_reducible repeat (first | apply Kd.R_alloc | apply Kd.R_drewN | apply Kd.R_drew)); exact HO585.out))) (below_size (by repeat (first | (with_reducible first | exact HB.out | apply below_alloc | apply pw_below_drewN | apply below_drew1) | exact HB.out))))
                  have n4_ := Aside0.mk (below_step (by repeat (first | (with_reducible first | exact HB.out | apply below_alloc | apply pw_below_drewN | apply below_drew1) | exact HB.out)) hb)
                  clear HO_0
                  clear HO_3
                  clear HO585
                  clear HB
                  have HO_0 := n0_
                  have HO_3 := n1_
                  have HO585 := n2_
                  have HO578 := n3_
                  have HB := n4_
                  clear n0_ n1_ n2_ n3_ n4_
                  clear hb ho68
                  refine hK.out _ _ ⟨HS0_, HS1_, HS2_, HS3_⟩ (fun hHeld => ?_)
                  clear hK K
                  refine norm_ (a' := ?_) ?_ ?_
                  rotate_left
                  · show Act.put _ (some 95) _ = _
                    simp only [Act.put, List.setIfInBounds_toArray, List.set_cons_zero, List.set_cons_succ, i64_w, i32_w]
                    rfl
                  refine one_ (i := 2) (N := some 97) #[true, true, true, true, true, true, true, true, false, false] rfl rfl (one_of HT_.out (by kernel_rfl)) (by decide) (fun K hK => ?_)
                  refine Kd.R_append_rows_step k24 (w0 := w) w.heap.size (by rfl) (.tmp 95) (.tmp 96) 27 24 (.agg #[(.int .i64 0), (.int .u32 0), (.int .u32 0), (.string ⟨#[]⟩)]) 32 rfl Try.underlying27 info24 rfl (by decide) (by omega) v577 y576 x3_2 _ _ _ (fun k_ => (w.heap.size ≤ k_) ∧ some k_ ≠ (.slice Ao12 x3_2.length co12 : Value).ownBlock ∧ some k_ ≠ (v584 : Value).ownBlock) (fun _ => False) rfl rfl ?aO ?aR (fun _ _ h => h) (fun _ h => h.elim) ?aF ?aB ?aS ?aL ?_
                  (case aR => repeat (first | exact (Kd.R_reads' HO_3.out).2.2 | (with_reducible refine Kd.C_alloc ?_ _) | (with_reducible refine Kd.C_drewN ?_ _) | (with_reducible refine Kd.C_drew ?_)))
                  (case aB => exact (by repeat (first | (with_reducible first | exact HB.out | apply below_alloc | apply pw_below_drewN | apply below_drew1) | exact HB.out)))
                  (case aF => exact (fun k_ hk => ⟨(Nat.le_trans (below_size (by repeat (first | (with_reducible first | exact HB.out | apply below_alloc | apply pw_below_drewN | apply below_drew1) | exact HB.out))) hk), Kd.fresh' (Kd.R_lt (by (with_reducible repeat (first | apply Kd.R_alloc | apply Kd.R_drewN | apply Kd.R_drew)); exact HO_3.out)) k_ hk, Kd.fresh' (Kd.R_lt (by (with_reducible repeat (first | apply Kd.R_alloc | apply Kd.R_drewN | apply Kd.R_drew)); exact HO585.out)) k_ hk⟩))
                  (case aO => exact (by (with_reducible repeat (first | apply Kd.R_alloc | apply Kd.R_drewN | apply Kd.R_drew)); exact Kd.R_mono HO578.out (fun _ hk => ⟨hk.1.1.1, ⟨hk.1.2, hk.2⟩⟩)))
                  (case aS => exact (below_size (by repeat (first | (with_reducible first | exact HB.out | apply below_alloc | apply pw_below_drewN | apply below_drew1) | exact HB.out))))
                  (case aL => have := LMc60.out; omega)
                  intro v580 w69 ho hb hg hat
                  have HS0_ := Kd.V_afterv_cell (ok := (fun k_ => (P0_ k_ ∨ w.heap.size ≤ k_) ∧ some k_ ≠ (.slice Ao12 x3_2.length co12 : Value).ownBlock ∧ some k_ ≠ (v584 : Value).ownBlock)) (by (with_reducible repeat (first | apply Kd.V_alloc | apply Kd.V_drewN | apply Kd.V_drew)); exact Kd.V_mono HO_0.out (fun _ hk => ⟨⟨hk.1.1.1, ⟨hk.1.1.2, hk.1.2⟩⟩, hk.2⟩)) hg rfl (by have z1_ : 0 ≤ x4_2 := of_decide_eq_true (by first | (with_reducible assumption) | assumption); have z2_ : x4_2 < (x0_3.length : Int) := of_decide_eq_true (by first | (with_reducible assumption) | assumption); omega) (by decide) (by first | rfl | exact add_block _ _) (hHeld.1)
                  have HS1_ := Kd.V_afterv_cell (ok := (fun k_ => (P0_ k_ ∨ w.heap.size ≤ k_) ∧ some k_ ≠ (.slice Ao12 x3_2.length co12 : Value).ownBlock ∧ some k_ ≠ (v584 : Value).ownBlock)) (by (with_reducible repeat (first | apply Kd.V_alloc | apply Kd.V_drewN | apply Kd.V_drew)); exact Kd.V_mono HO_0.out (fun _ hk => ⟨⟨hk.1.1.1, ⟨hk.1.1.2, hk.1.2⟩⟩, hk.2⟩)) hg rfl (by have z1_ : 0 ≤ x4_2 := of_decide_eq_true (by first | (with_reducible assumption) | assumption); have z2_ : x4_2 < (x0_3.length : Int) := of_decide_eq_true (by first | (with_reducible assumption) | assumption); omega) (by decide) (by first | rfl | exact add_block _ _) (hHeld.2.1)
                  have HS2_ := Kd.V_afterv_cell (ok := (fun k_ => (P0_ k_ ∨ w.heap.size ≤ k_) ∧ some k_ ≠ (.slice Ao12 x3_2.length co12 : Value).ownBlock ∧ some k_ ≠ (v584 : Value).ownBlock)) (by (with_reducible repeat (first | apply Kd.V_alloc | apply Kd.V_drewN | apply Kd.V_drew)); exact Kd.V_mono HO_0.out (fun _ hk => ⟨⟨hk.1.1.1, ⟨hk.1.1.2, hk.1.2⟩⟩, hk.2⟩)) hg rfl (by have z1_ : 0 ≤ x4_2 := of_decide_eq_true (by first | (with_reducible assumption) | assumption); have z2_ : x4_2 < (x0_3.length : Int) := of_decide_eq_true (by first | (with_reducible assumption) | assumption); omega) (by decide) (by first | rfl | exact add_block _ _) (hHeld.2.2.1)
                  have HS3_ := Kd.V_afterv_cell (ok := (fun k_ => (P0_ k_ ∨ w.heap.size ≤ k_) ∧ some k_ ≠ (.slice Ao12 x3_2.length co12 : Value).ownBlock ∧ some k_ ≠ (v584 : Value).ownBlock)) (by (with_reducible repeat (first | apply Kd.V_alloc | apply Kd.V_drewN | apply Kd.V_drew)); exact Kd.V_mono HO_0.out (fun _ hk => ⟨⟨hk.1.1.1, ⟨hk.1.1.2, hk.1.2⟩⟩, hk.2⟩)) hg rfl (by have z1_ : 0 ≤ x4_2 := of_decide_eq_true (by first | (with_reducible assumption) | assumption); have z2_ : x4_2 < (x0_3.length : Int) := of_decide_eq_true (by first | (with_reducible assumption) | assumption); omega) (by decide) (by first | rfl | exact add_block _ _) (hHeld.2.2.2)
                  rw [← Ny579.out] at ho
                  have n0_ := Aside0.mk (Kd.V_afterv (ok := (fun k_ => (P0_ k_ ∨ w.heap.size ≤ k_) ∧ some k_ ≠ (.slice Ao12 x3_2.length co12 : Value).ownBlock ∧ some k_ ≠ (v584 : Value).ownBlock)) (by (with_reducible repeat (first | apply Kd.V_alloc | apply Kd.V_drewN | apply Kd.V_drew)); exact Kd.V_mono HO_0.out (fun _ hk => ⟨⟨hk.1.1.1, ⟨hk.1.1.2, hk.1.2⟩⟩, hk.2⟩)) hg hat)
                  have n1_ := Aside0.mk (Kd.R_after (ok := (fun k_ => (w.heap.size ≤ k_) ∧ some k_ ≠ (v584 : Value).ownBlock)) (by (with_reducible repeat (first | apply Kd.R_alloc | apply Kd.R_drewN | apply Kd.R_drew)); exact HO_3.out) hg hat)
                  have n2_ := Aside0.mk (Kd.R_after (ok := (fun k_ => (w.heap.size ≤ k_) ∧ some k_ ≠ (.slice Ao12 x3_2.length co12 : Value).ownBlock)) (by (with_reducible repeat (first | apply Kd.R_alloc | apply Kd.R_drewN | apply Kd.R_drew)); exact Kd.R_mono HO585.out (fun _ hk => ⟨⟨hk.1.1.1, hk.1.2⟩, hk.2⟩)) hg hat)
                  have n3_ := Aside0.mk (hb)
                  have n4_ := Aside0.mk (ho)
                  clear HO_0
                  clear HO_3
                  clear HO585
                  clear HB
                  clear HO578
                  have HO_0 := n0_
                  have HO_3 := n1_
                  have HO585 := n2_
                  have HB := n3_
                  have HO581 := n4_
                  clear n0_ n1_ n2_ n3_ n4_
                  clear ho hb hg hat
                  refine hK.out _ _ ⟨HS0_, HS1_, HS2_, HS3_⟩ (fun hHeld => ?_)
                  clear hK K
                  refine norm_ (a' := ?_) ?_ ?_
                  rotate_left
                  · show Act.put _ (some 97) _ = _
                    simp only [Act.put, List.setIfInBounds_toArray, List.set_cons_zero, List.set_cons_succ, i64_w, i32_w]
                    rfl
                  exact norm_ (by simp only [putAll, Act.put, List.setIfInBounds_toArray, List.set_cons_zero, List.set_cons_succ]) (hCont (v577, v580, v584) _ ⟨hHeld, (by (with_reducible repeat (first | apply Kd.R_alloc | apply Kd.R_drewN | apply Kd.R_drew)); exact Kd.R_mono HO581.out (fun _ hk => ⟨hk.1, ⟨hk.2.2, hk.2.1⟩⟩)), (by (with_reducible repeat (first | apply Kd.R_alloc | apply Kd.R_drewN | apply Kd.R_drew)); exact Kd.R_mono HO585.out (fun _ hk => ⟨hk.1.1, ⟨hk.2, hk.1.2⟩⟩)), (by (with_reducible repeat (first | apply Kd.V_alloc | apply Kd.V_drewN | apply Kd.V_drew)); exact Kd.V_mono HO_0.out (fun _ hk => ⟨hk.1.1, ⟨hk.2, ⟨hk.1.2.2, hk.1.2.1⟩⟩⟩)), (by (with_reducible repeat (first | apply Kd.R_alloc | apply Kd.R_drewN | apply Kd.R_drew)); exact Kd.R_mono HO_3.out (fun _ hk => ⟨hk.1.1, ⟨hk.2, hk.1.2⟩⟩)), (by repeat (first | (with_reducible first | exact HB.out | apply below_alloc | apply pw_below_drewN | apply below_drew1) | exact HB.out))⟩)
              rintro ⟨v577, v580, v584⟩ w70 ⟨hS_, h0_, h1_, h2_, h3_, h4_⟩
              have n0_ : Aside0 (Kd.R k24 24 w70 w.heap.size (fun k_ => (w.heap.size ≤ k_) ∧ some k_ ≠ (v584 : Value).ownBlock ∧ some k_ ≠ (.slice Ao12 x3_2.length co12 : Value).ownBlock) v580 y579) := ⟨h0_⟩
              have n1_ : Aside0 (Kd.R k24 24 w70 w.heap.size (fun k_ => (w.heap.size ≤ k_) ∧ some k_ ≠ (v580 : Value).ownBlock ∧ some k_ ≠ (.slice Ao12 x3_2.length co12 : Value).ownBlock) v584 y583) := ⟨h1_⟩
              have n2_ : Aside0 (Kd.V k24 24 w70 w.heap.size (fun k_ => (P0_ k_ ∨ w.heap.size ≤ k_) ∧ some k_ ≠ (v580 : Value).ownBlock ∧ some k_ ≠ (v584 : Value).ownBlock ∧ some k_ ≠ (.slice Ao12 x3_2.length co12 : Value).ownBlock) (.slice (some ad582) x0_3.length co11) x0_3) := ⟨h2_⟩
              have n3_ : Aside0 (Kd.R k24 24 w70 w.heap.size (fun k_ => (w.heap.size ≤ k_) ∧ some k_ ≠ (v580 : Value).ownBlock ∧ some k_ ≠ (v584 : Value).ownBlock) (.slice Ao12 x3_2.length co12) x3_2) := ⟨h3_⟩
              have n4_ : Aside0 (Below w.heap.size w w70) := ⟨h4_⟩
              clear HO_0
              clear HO_3
              clear HB
              clear h0_ h1_ h2_ h3_ h4_
              have HO581 := n0_
              have HO585 := n1_
              have HO_0 := n2_
              have HO_3 := n3_
              have HB := n4_
              clear n0_ n1_ n2_ n3_ n4_
              have hHeld : w70.cell? (ad582.add ((x4_2).toNat * 4)) = some (.int .i64 ((rd_T24 x0_3 x4_2).f0)) ∧ w70.cell? ⟨(ad582.add ((x4_2).toNat * 4)).block, (ad582.add ((x4_2).toNat * 4)).off + 1, none⟩ = some (.int .u32 ((rd_T24 x0_3 x4_2).f1)) ∧ w70.cell? ⟨(ad582.add ((x4_2).toNat * 4)).block, (ad582.add ((x4_2).toNat * 4)).off + 2, none⟩ = some (.int .u32 ((rd_T24 x0_3 x4_2).f2)) ∧ w70.cell? ⟨(ad582.add ((x4_2).toNat * 4)).block, (ad582.add ((x4_2).toNat * 4)).off + 3, none⟩ = some (.string ((rd_T24 x0_3 x4_2).f3)) := hS_
              obtain ⟨Ao72, co72, eo72⟩ := Kd.R_slice HO585.out
              (first | subst eo72 | (injection eo72 with f1_ f2_ f3_; have f4_ := f1_.symm; have f5_ := f3_.symm; clear f1_ f2_ f3_; subst f4_; subst f5_))
              refine norm_ (a' := ?_) ?_ ?_
              rotate_left
              · simp only [putAll, Act.put, List.setIfInBounds_toArray, List.set_cons_zero, List.set_cons_succ]
                rfl
              refine one_ (i := 8) (N := some 103) #[true, true, true, true, true, true, true, true, true, false] rfl rfl (one_of HT_.out (by kernel_rfl)) (by decide) (fun K hK => ?_)
              refine Kd.R_append_rows_step k24 (w0 := w) w.heap.size (by rfl) (.tmp 97) (.tmp 102) 27 24 (.agg #[(.int .i64 0), (.int .u32 0), (.int .u32 0), (.string ⟨#[]⟩)]) 32 rfl Try.underlying27 info24 rfl (by decide) (by omega) v580 y579 y583 _ _ _ (fun k_ => (w.heap.size ≤ k_) ∧ some k_ ≠ (.slice Ao12 x3_2.length co12 : Value).ownBlock ∧ some k_ ≠ (.slice Ao72 y583.length co72 : Value).ownBlock) (fun _ => False) rfl rfl ?aO ?aR (fun _ _ h => h) (fun _ h => h.elim) ?aF ?aB ?aS ?aL ?_
              (case aR => repeat (first | exact (Kd.R_reads' HO585.out).2.2 | (with_reducible refine Kd.C_alloc ?_ _) | (with_reducible refine Kd.C_drewN ?_ _) | (with_reducible refine Kd.C_drew ?_)))
              (case aB => exact (by repeat (first | (with_reducible first | exact HB.out | apply below_alloc | apply pw_below_drewN | apply below_drew1) | exact HB.out)))
              (case aF => exact (fun k_ hk => ⟨(Nat.le_trans (below_size (by repeat (first | (with_reducible first | exact HB.out | apply below_alloc | apply pw_below_drewN | apply below_drew1) | exact HB.out))) hk), Kd.fresh' (Kd.R_lt (by (with_reducible repeat (first | apply Kd.R_alloc | apply Kd.R_drewN | apply Kd.R_drew)); exact HO_3.out)) k_ hk, Kd.fresh' (Kd.R_lt (by (with_reducible repeat (first | apply Kd.R_alloc | apply Kd.R_drewN | apply Kd.R_drew)); exact HO585.out)) k_ hk⟩))
              (case aO => exact (by (with_reducible repeat (first | apply Kd.R_alloc | apply Kd.R_drewN | apply Kd.R_drew)); exact Kd.R_mono HO581.out (fun _ hk => ⟨hk.1, ⟨hk.2.2, hk.2.1⟩⟩)))
              (case aS => exact (below_size (by repeat (first | (with_reducible first | exact HB.out | apply below_alloc | apply pw_below_drewN | apply below_drew1) | exact HB.out))))
              (case aL => have := LMc63.out; omega)
              intro v587 w71 ho hb hg hat
              have HS0_ := Kd.V_afterv_cell (ok := (fun k_ => (P0_ k_ ∨ w.heap.size ≤ k_) ∧ some k_ ≠ (.slice Ao12 x3_2.length co12 : Value).ownBlock ∧ some k_ ≠ (.slice Ao72 y583.length co72 : Value).ownBlock)) (by (with_reducible repeat (first | apply Kd.V_alloc | apply Kd.V_drewN | apply Kd.V_drew)); exact Kd.V_mono HO_0.out (fun _ hk => ⟨⟨hk.1, ⟨hk.2.2.2, hk.2.2.1⟩⟩, hk.2.1⟩)) hg rfl (by have z1_ : 0 ≤ x4_2 := of_decide_eq_true (by first | (with_reducible assumption) | assumption); have z2_ : x4_2 < (x0_3.length : Int) := of_decide_eq_true (by first | (with_reducible assumption) | assumption); omega) (by decide) (by first | rfl | exact add_block _ _) (hHeld.1)
              have HS1_ := Kd.V_afterv_cell (ok := (fun k_ => (P0_ k_ ∨ w.heap.size ≤ k_) ∧ some k_ ≠ (.slice Ao12 x3_2.length co12 : Value).ownBlock ∧ some k_ ≠ (.slice Ao72 y583.length co72 : Value).ownBlock)) (by (with_reducible repeat (first | apply Kd.V_alloc | apply Kd.V_drewN | apply Kd.V_drew)); exact Kd.V_mono HO_0.out (fun _ hk => ⟨⟨hk.1, ⟨hk.2.2.2, hk.2.2.1⟩⟩, hk.2.1⟩)) hg rfl (by have z1_ : 0 ≤ x4_2 := of_decide_eq_true (by first | (with_reducible assumption) | assumption); have z2_ : x4_2 < (x0_3.length : Int) := of_decide_eq_true (by first | (with_reducible assumption) | assumption); omega) (by decide) (by first | rfl | exact add_block _ _) (hHeld.2.1)
              have HS2_ := Kd.V_afterv_cell (ok := (fun k_ => (P0_ k_ ∨ w.heap.size ≤ k_) ∧ some k_ ≠ (.slice Ao12 x3_2.length co12 : Value).ownBlock ∧ some k_ ≠ (.slice Ao72 y583.length co72 : Value).ownBlock)) (by (with_reducible repeat (first | apply Kd.V_alloc | apply Kd.V_drewN | apply Kd.V_drew)); exact Kd.V_mono HO_0.out (fun _ hk => ⟨⟨hk.1, ⟨hk.2.2.2, hk.2.2.1⟩⟩, hk.2.1⟩)) hg rfl (by have z1_ : 0 ≤ x4_2 := of_decide_eq_true (by first | (with_reducible assumption) | assumption); have z2_ : x4_2 < (x0_3.length : Int) := of_decide_eq_true (by first | (with_reducible assumption) | assumption); omega) (by decide) (by first | rfl | exact add_block _ _) (hHeld.2.2.1)
              have HS3_ := Kd.V_afterv_cell (ok := (fun k_ => (P0_ k_ ∨ w.heap.size ≤ k_) ∧ some k_ ≠ (.slice Ao12 x3_2.length co12 : Value).ownBlock ∧ some k_ ≠ (.slice Ao72 y583.length co72 : Value).ownBlock)) (by (with_reducible repeat (first | apply Kd.V_alloc | apply Kd.V_drewN | apply Kd.V_drew)); exact Kd.V_mono HO_0.out (fun _ hk => ⟨⟨hk.1, ⟨hk.2.2.2, hk.2.2.1⟩⟩, hk.2.1⟩)) hg rfl (by have z1_ : 0 ≤ x4_2 := of_decide_eq_true (by first | (with_reducible assumption) | assumption); have z2_ : x4_2 < (x0_3.length : Int) := of_decide_eq_true (by first | (with_reducible assumption) | assumption); omega) (by decide) (by first | rfl | exact add_block _ _) (hHeld.2.2.2)
              rw [← Ny586.out] at ho
              have n0_ := Aside0.mk (Kd.V_afterv (ok := (fun k_ => (P0_ k_ ∨ w.heap.size ≤ k_) ∧ some k_ ≠ (.slice Ao12 x3_2.length co12 : Value).ownBlock ∧ some k_ ≠ (.slice Ao72 y583.length co72 : Value).ownBlock)) (by (with_reducible repeat (first | apply Kd.V_alloc | apply Kd.V_drewN | apply Kd.V_drew)); exact Kd.V_mono HO_0.out (fun _ hk => ⟨⟨hk.1, ⟨hk.2.2.2, hk.2.2.1⟩⟩, hk.2.1⟩)) hg hat)
              have n1_ := Aside0.mk (Kd.R_after (ok := (fun k_ => (w.heap.size ≤ k_) ∧ some k_ ≠ (.slice Ao72 y583.length co72 : Value).ownBlock)) (by (with_reducible repeat (first | apply Kd.R_alloc | apply Kd.R_drewN | apply Kd.R_drew)); exact Kd.R_mono HO_3.out (fun _ hk => ⟨⟨hk.1, hk.2.2⟩, hk.2.1⟩)) hg hat)
              have n2_ := Aside0.mk (Kd.R_after (ok := (fun k_ => (w.heap.size ≤ k_) ∧ some k_ ≠ (.slice Ao12 x3_2.length co12 : Value).ownBlock)) (by (with_reducible repeat (first | apply Kd.R_alloc | apply Kd.R_drewN | apply Kd.R_drew)); exact Kd.R_mono HO585.out (fun _ hk => ⟨⟨hk.1, hk.2.2⟩, hk.2.1⟩)) hg hat)
              have n3_ := Aside0.mk (hb)
              have n4_ := Aside0.mk (ho)
              clear HO_0
              clear HO_3
              clear HO585
              clear HB
              clear HO581
              have HO_0 := n0_
              have HO_3 := n1_
              have HO585 := n2_
              have HB := n3_
              have HO588 := n4_
              clear n0_ n1_ n2_ n3_ n4_
              clear ho hb hg hat
              refine hK.out _ _ ⟨HS0_, HS1_, HS2_, HS3_⟩ (fun hHeld => ?_)
              clear hK K
              refine norm_ (a' := ?_) ?_ ?_
              rotate_left
              · show Act.put _ (some 103) _ = _
                simp only [Act.put, List.setIfInBounds_toArray, List.set_cons_zero, List.set_cons_succ, i64_w, i32_w]
                rfl
              refine pure_ (i := 9) (N := some 3) (v := ?_) (a' := ?_) #[true, true, true, true, true, true, true, true, true, true] rfl rfl (any_of HT_.out (by kernel_rfl)) (fun _ _ _ h => h) (Or.inl ⟨by rfl, ?_⟩) ?_ ?_
              rotate_left
              · intro w'
                go_simp
                with_reducible rfl
              rotate_left
              · simp only [Act.put, List.setIfInBounds_toArray, List.set_cons_zero, List.set_cons_succ, i64_w, i32_w]
                rfl
              refine done_ (done_of HT_.out (by kernel_rfl)) ?_
              try go_wp2
              go_roundg kj22
              case measure => have := HJ3.out; have := HK2.out; have := HJ9.out; have := HJ22.out; omega
              case rel => exact ⟨(y586), (wrap64 (x4_2 + 1)), (by first | rfl | (simp; done) | (simp [*]; done)), H', ⟨by have := HJ3.out; have := HK2.out; have := HJ9.out; have := HJ22.out; omega⟩, ⟨by (with_reducible repeat (first | apply Kd.V_alloc | apply Kd.V_drewN | apply Kd.V_drew)); exact Kd.V_mono HO_0.out (fun _ hk => ⟨hk.1.1, hk.2⟩)⟩, ⟨by (with_reducible repeat (first | apply Kd.R_alloc | apply Kd.R_drewN | apply Kd.R_drew)); exact Kd.R_mono HO588.out (fun _ hk => hk.1)⟩, ⟨by repeat (first | (with_reducible first | exact HB.out | apply below_alloc | apply pw_below_drewN | apply below_drew1) | exact HB.out)⟩⟩
            · rw [if_neg c63] at H
              exact absurd H (by simp)
          · rw [if_neg c62] at H
            exact absurd H (by simp)
        · rw [if_neg c61] at H
          exact absurd H (by simp)
      · rw [if_neg c60] at H
        exact absurd H (by simp)

theorem croftlaw46_TrackStraight.calls (k : Nat) (P0_ : Nat → Prop) (A0 : Option Addr) (c0 : Nat) (l0 : List (S24)) (r : Bool) (w : World) (hs0 : Kd.V k24 24 w w.heap.size (fun k_ => P0_ k_) (.slice A0 l0.length c0) l0) (hT : r = true) (h : croftlaw46_TrackStraight.f k l0 = some r) :
    Calls Try.prog 9 #[.slice A0 l0.length c0] w fun e w' => e = .returned (.bool r) ∧ Below w.heap.size w w' := croftlaw46_TrackStraight.part.2.2 ⟨croftlaw46_TrackStraight.left0⟩ ⟨croftlaw46_TrackStraight.left1⟩ k P0_ A0 c0 l0 r w hs0 hT h
/-- THE ONE PURE STATEMENT of croftlaw46_TrackStraight. -/
def croftlaw46_TrackStraight.Pure : Prop := ∀ (l0 : List (S24)), l0.length ≤ maxLen → l0.length * 32 ≤ 140737488351232 → (∀ x ∈ l0, (Lit.int .i64 x.f0).wf = true ∧ (Lit.int .u32 x.f1).wf = true ∧ (Lit.int .u32 x.f2).wf = true) → ∃ k, croftlaw46_TrackStraight.f k l0 = some true

end Go.Proofs.Ytgepbfcaimejmaa.PA

