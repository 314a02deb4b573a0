/- The reference's reader of a line: the switch in state 7. The reference's reader of a line: the switch in state 8. The reference's reader of a line: the switch in state 9. The reference's reader of a line: the switch in state 10. The reference's reader of a line: the switch in state 11. The reference's reader of a line: the switch in state 12. (Merged by merge.py.) -/
import Derived.Test.YtkoldjmhcifpjaaMC
/-! ## RefS7 -/
namespace Go.Proofs.Ytkoldjmhcifpjaa.refs
open Go Go.RowKit Go.Proofs.Ytkoldjmhcifpjaa.parsep Go.Proofs.Ytkoldjmhcifpjaa.reada Go.Proofs.Ytkoldjmhcifpjaa.readi Go.Proofs.Ytkoldjmhcifpjaa.refa Go.Proofs.Ytkoldjmhcifpjaa.refc Go.Proofs.Ytkoldjmhcifpjaa.PShellReads Go.Proofs.YtkoldjmhcifpjaaW.PrintWords
set_option linter.unusedVariables false
set_option linter.unusedSimpArgs false
set_option maxHeartbeats 2000000 in
set_option maxRecDepth 100000 in
theorem sw7 (w W : World) (n : Nat) (wd vl : Bs) (hf c : UInt8) (L : Ln) (v : Value) (en ov : Bool) (hen : en = true → c = 0) (hov : ov = (en || isBl c)) (hwd : wd.length ≤ 16) (hvl : vl.length ≤ 4097) (hn : n ≤ 4097) (hol : L.opts.length ≤ 4097) (hq : Rq w W L v)
    (K : Act → World → Prop) (Q : Exit → Act → World → Prop)
    (y0 y1 y2 y3 y4 y5 y12 y17 y18 y19 y20 y21 y22 y23 y24 y25 y26 y27 y28 y29 y30 y31 y32 y33 y34 y35 y36 y37 y38 y39 y40 y41 y42 y43 y44 y45 y46 y48 y49 y50 y51 y52 y53 y54 y55 y56 y57 y58 y59 y60 y61 y62 y63 y64 y65 y66 y67 y68 y69 y70 y71 y72 y73 y74 y75 y76 y77 y78 y79 y80 y81 y82 y83 y84 y85 y86 y87 y88 y89 y90 y91 y92 y93 y94 y95 y96 y97 y98 y99 y100 y101 y102 y103 y104 y105 y106 y107 y108 y109 y110 y111 y112 y113 y114 y115 y116 y117 y118 y119 y120 y121 y122 y123 y124 y125 y126 y127 y128 y129 y130 y131 y132 y133 y134 y135 y136 y137 y138 y139 y140 y141 y142 y143 y144 y145 y146 y147 y148 y149 y150 y151 y152 y153 y154 y155 y156 y157 y158 y159 y160 y161 y162 y163 y164 y165 y166 y167 y168 y169 y170 y171 y172 y173 y174 y175 y176 y177 y178 y179 y180 y181 y182 y183 y184 y185 y186 y187 y188 y189 y190 y191 y192 y193 y194 y195 y196 y197 y198 y199 y200 y201 y202 y203 y204 y205 y206 y207 y208 y209 y210 y211 y212 y213 y214 y215 y216 y217 y218 y219 y220 y221 y222 y223 y224 y225 y226 y227 y228 y229 y230 y231 y232 : Value)
    (hK : ∀ (v7 v8 v9 v10 v11 v16 v47 v48 v49 v50 v51 v52 v53 v54 v55 v56 v57 v58 v59 v60 v61 v62 v63 v64 v65 v66 v67 v68 v69 v70 v71 v72 v73 v74 v75 v76 v77 v78 v79 v80 v81 v82 v83 v84 v85 v86 v87 v88 v89 v90 v91 v92 v93 v94 v95 v96 v97 v98 v99 v100 v101 v102 v103 v104 v105 v106 v107 v108 v109 v110 v111 v112 v113 v114 v115 v116 v117 v118 v119 v120 v121 v122 v123 v124 v125 v126 v127 v128 v129 v130 v131 v132 v133 v134 v135 v136 v137 v138 v139 v140 v141 v142 v143 v144 v145 v146 v147 v148 v149 v150 v151 v152 v153 v154 v155 v156 v157 v158 v159 v160 v161 v162 v163 v164 v165 v166 v167 v168 v169 v170 v171 v172 v173 v174 v175 v176 v177 v178 v179 v180 v181 v182 v183 v184 v185 v186 v187 v188 v189 v190 v191 v192 v193 v194 v195 v196 v197 v198 v199 v200 v201 v202 v203 v204 v205 v206 v207 v208 v209 v210 v211 v212 v213 v214 v215 v216 v217 v218 v219 v220 v221 v222 v223 v224 v225 v226 v227 : Value) (W' : World), SwR w ⟨7, n, wd, vl, hf, L⟩ c en v7 v8 v9 v10 v11 v16 W' → K { tmps := #[y0, y1, y2, y3, y4, y5, .pointer (some ⟨w.heap.size + 1 + 1, 0, none⟩), v7, v8, v9, v10, v11, y12, .bool en, .int .u8 (c.toNat : Int), .bool ov, v16, y17, y18, y19, y20, y21, y22, y23, y24, y25, y26, y27, y28, y29, y30, y31, y32, y33, y34, y35, y36, y37, y38, y39, y40, y41, y42, y43, y44, y45, y46, v47, v48, v49, v50, v51, v52, v53, v54, v55, v56, v57, v58, v59, v60, v61, v62, v63, v64, v65, v66, v67, v68, v69, v70, v71, v72, v73, v74, v75, v76, v77, v78, v79, v80, v81, v82, v83, v84, v85, v86, v87, v88, v89, v90, v91, v92, v93, v94, v95, v96, v97, v98, v99, v100, v101, v102, v103, v104, v105, v106, v107, v108, v109, v110, v111, v112, v113, v114, v115, v116, v117, v118, v119, v120, v121, v122, v123, v124, v125, v126, v127, v128, v129, v130, v131, v132, v133, v134, v135, v136, v137, v138, v139, v140, v141, v142, v143, v144, v145, v146, v147, v148, v149, v150, v151, v152, v153, v154, v155, v156, v157, v158, v159, v160, v161, v162, v163, v164, v165, v166, v167, v168, v169, v170, v171, v172, v173, v174, v175, v176, v177, v178, v179, v180, v181, v182, v183, v184, v185, v186, v187, v188, v189, v190, v191, v192, v193, v194, v195, v196, v197, v198, v199, v200, v201, v202, v203, v204, v205, v206, v207, v208, v209, v210, v211, v212, v213, v214, v215, v216, v217, v218, v219, v220, v221, v222, v223, v224, v225, v226, v227, y228, y229, y230, y231, y232], defers := [] } W') :
    swC.wp Try.prog (Exit.then K Q) { tmps := #[y0, y1, y2, y3, y4, y5, .pointer (some ⟨w.heap.size + 1 + 1, 0, none⟩), .int .i64 7, .int .i64 (n : Int), .string ⟨wd.toArray⟩, .string ⟨vl.toArray⟩, .int .i64 (hf.toNat : Int), y12, .bool en, .int .u8 (c.toNat : Int), .bool ov, .bool false, y17, y18, y19, y20, y21, y22, y23, y24, y25, y26, y27, y28, y29, y30, y31, y32, y33, y34, y35, y36, y37, y38, y39, y40, y41, y42, y43, y44, y45, y46, .int .i64 7, y48, y49, y50, y51, y52, y53, y54, y55, y56, y57, y58, y59, y60, y61, y62, y63, y64, y65, y66, y67, y68, y69, y70, y71, y72, y73, y74, y75, y76, y77, y78, y79, y80, y81, y82, y83, y84, y85, y86, y87, y88, y89, y90, y91, y92, y93, y94, y95, y96, y97, y98, y99, y100, y101, y102, y103, y104, y105, y106, y107, y108, y109, y110, y111, y112, y113, y114, y115, y116, y117, y118, y119, y120, y121, y122, y123, y124, y125, y126, y127, y128, y129, y130, y131, y132, y133, y134, y135, y136, y137, y138, y139, y140, y141, y142, y143, y144, y145, y146, y147, y148, y149, y150, y151, y152, y153, y154, y155, y156, y157, y158, y159, y160, y161, y162, y163, y164, y165, y166, y167, y168, y169, y170, y171, y172, y173, y174, y175, y176, y177, y178, y179, y180, y181, y182, y183, y184, y185, y186, y187, y188, y189, y190, y191, y192, y193, y194, y195, y196, y197, y198, y199, y200, y201, y202, y203, y204, y205, y206, y207, y208, y209, y210, y211, y212, y213, y214, y215, y216, y217, y218, y219, y220, y221, y222, y223, y224, y225, y226, y227, y228, y229, y230, y231, y232], defers := [] } W := by
  have HK := Aside0.mk hK
  have HQ := Aside0.mk hq
  clear hK hq
  have hcv := conv1
  have hcv1 := conv1d
  have hcv2 := conv1d2
  have hcv3 := conv1d3
  by_cases hc34 : c = 34
  · obtain rfl : en = false := by cases en with | false => rfl | true => (rw [hen rfl] at hc34; exact absurd hc34 (by decide))
    clear hov hen
    have HC34 := Aside0.mk hc34
    have e34 : ((c.toNat : Int) == 34) = true := beq_yes (d := 34) rfl hc34
    clear hc34
    dsimp only [swC, swOf, Try.f6, Option.getD]
    go_wp2_with fail
    refine HK.out _ _ _ _ _ _ _ _ _ _ _ _ _ _ _ _ _ _ _ _ _ _ _ _ _ _ _ _ _ _ _ _ _ _ _ _ _ _ _ _ _ _ _ _ _ _ _ _ _ _ _ _ _ _ _ _ _ _ _ _ _ _ _ _ _ _ _ _ _ _ _ _ _ _ _ _ _ _ _ _ _ _ _ _ _ _ _ _ _ _ _ _ _ _ _ _ _ _ _ _ _ _ _ _ _ _ _ _ _ _ _ _ _ _ _ _ _ _ _ _ _ _ _ _ _ _ _ _ _ _ _ _ _ _ _ _ _ _ _ _ _ _ _ _ _ _ _ _ _ _ _ _ _ _ _ _ _ _ _ _ _ _ _ _ _ _ _ _ _ _ _ _ _ _ _ _ _ _ _ _ _ _ _ _ _ _ _ _ ?_
    exact SwR.good ⟨11, n, wd, vl, hf, L⟩ v (rfl) (rfl) (rfl) (rfl) (rfl) (by repeat (first | exact HQ.out | refine rq_alloc ?_ _ | refine rq_drewN ?_ _)) (by simp [stepc, HC34.out])
  · by_cases hc92 : c = 92
    · obtain rfl : en = false := by cases en with | false => rfl | true => (rw [hen rfl] at hc92; exact absurd hc92 (by decide))
      clear hov hen
      have HC92 := Aside0.mk hc92
      have e92 : ((c.toNat : Int) == 92) = true := beq_yes (d := 92) rfl hc92
      clear hc92
      have HC34 := Aside0.mk hc34
      have e34 : ((c.toNat : Int) == 34) = false := beq_no (d := 34) rfl hc34
      clear hc34
      dsimp only [swC, swOf, Try.f6, Option.getD]
      go_wp2_with fail
      refine HK.out _ _ _ _ _ _ _ _ _ _ _ _ _ _ _ _ _ _ _ _ _ _ _ _ _ _ _ _ _ _ _ _ _ _ _ _ _ _ _ _ _ _ _ _ _ _ _ _ _ _ _ _ _ _ _ _ _ _ _ _ _ _ _ _ _ _ _ _ _ _ _ _ _ _ _ _ _ _ _ _ _ _ _ _ _ _ _ _ _ _ _ _ _ _ _ _ _ _ _ _ _ _ _ _ _ _ _ _ _ _ _ _ _ _ _ _ _ _ _ _ _ _ _ _ _ _ _ _ _ _ _ _ _ _ _ _ _ _ _ _ _ _ _ _ _ _ _ _ _ _ _ _ _ _ _ _ _ _ _ _ _ _ _ _ _ _ _ _ _ _ _ _ _ _ _ _ _ _ _ _ _ _ _ _ _ _ _ _ ?_
      exact SwR.good ⟨8, n, wd, vl, hf, L⟩ v (rfl) (rfl) (rfl) (rfl) (rfl) (by repeat (first | exact HQ.out | refine rq_alloc ?_ _ | refine rq_drewN ?_ _)) (by simp [stepc, HC92.out])
    · have HC34 := Aside0.mk hc34
      have e34 : ((c.toNat : Int) == 34) = false := beq_no (d := 34) rfl hc34
      clear hc34
      have HC92 := Aside0.mk hc92
      have e92 : ((c.toNat : Int) == 92) = false := beq_no (d := 92) rfl hc92
      clear hc92
      clear hov hen
      cases en with
      | true =>
        dsimp only [swC, swOf, Try.f6, Option.getD]
        go_wp2_with (first | (go_at_call 14; refine (letterQ c _).mono ?_; rintro e w' ⟨rfl, m, rfl⟩) | (go_at_call 15; refine (digitQ c _).mono ?_; rintro e w' ⟨rfl, m, rfl⟩) | (go_at_call 16; refine (hexaQ c _).mono ?_; rintro e w' ⟨rfl, m, rfl⟩) | fail)
        refine HK.out _ _ _ _ _ _ _ _ _ _ _ _ _ _ _ _ _ _ _ _ _ _ _ _ _ _ _ _ _ _ _ _ _ _ _ _ _ _ _ _ _ _ _ _ _ _ _ _ _ _ _ _ _ _ _ _ _ _ _ _ _ _ _ _ _ _ _ _ _ _ _ _ _ _ _ _ _ _ _ _ _ _ _ _ _ _ _ _ _ _ _ _ _ _ _ _ _ _ _ _ _ _ _ _ _ _ _ _ _ _ _ _ _ _ _ _ _ _ _ _ _ _ _ _ _ _ _ _ _ _ _ _ _ _ _ _ _ _ _ _ _ _ _ _ _ _ _ _ _ _ _ _ _ _ _ _ _ _ _ _ _ _ _ _ _ _ _ _ _ _ _ _ _ _ _ _ _ _ _ _ _ _ _ _ _ _ _ _ ?_
        exact SwR.bad (by repeat (first | exact HQ.out.z | refine rz_alloc ?_ _ | refine rz_drewN ?_ _)) (by rfl)
      | false =>
        dsimp only [swC, swOf, Try.f6, Option.getD]
        go_wp2_with (first | (go_at_call 14; refine (letterQ c _).mono ?_; rintro e w' ⟨rfl, m, rfl⟩) | (go_at_call 15; refine (digitQ c _).mono ?_; rintro e w' ⟨rfl, m, rfl⟩) | (go_at_call 16; refine (hexaQ c _).mono ?_; rintro e w' ⟨rfl, m, rfl⟩) | fail)
        refine HK.out _ _ _ _ _ _ _ _ _ _ _ _ _ _ _ _ _ _ _ _ _ _ _ _ _ _ _ _ _ _ _ _ _ _ _ _ _ _ _ _ _ _ _ _ _ _ _ _ _ _ _ _ _ _ _ _ _ _ _ _ _ _ _ _ _ _ _ _ _ _ _ _ _ _ _ _ _ _ _ _ _ _ _ _ _ _ _ _ _ _ _ _ _ _ _ _ _ _ _ _ _ _ _ _ _ _ _ _ _ _ _ _ _ _ _ _ _ _ _ _ _ _ _ _ _ _ _ _ _ _ _ _ _ _ _ _ _ _ _ _ _ _ _ _ _ _ _ _ _ _ _ _ _ _ _ _ _ _ _ _ _ _ _ _ _ _ _ _ _ _ _ _ _ _ _ _ _ _ _ _ _ _ _ _ _ _ _ _ ?_
        exact SwR.good ⟨7, n, wd, vl ++ [c], hf, L⟩ v (rfl) (rfl) (rfl) (congrArg Value.string (str_snoc _ _)) (rfl) (by repeat (first | exact HQ.out | refine rq_alloc ?_ _ | refine rq_drewN ?_ _)) (by simp [stepc, HC34.out, HC92.out])

end Go.Proofs.Ytkoldjmhcifpjaa.refs
/-! ## RefS8 -/
namespace Go.Proofs.Ytkoldjmhcifpjaa.refs
open Go Go.RowKit Go.Proofs.Ytkoldjmhcifpjaa.parsep Go.Proofs.Ytkoldjmhcifpjaa.reada Go.Proofs.Ytkoldjmhcifpjaa.readi Go.Proofs.Ytkoldjmhcifpjaa.refa Go.Proofs.Ytkoldjmhcifpjaa.refc Go.Proofs.Ytkoldjmhcifpjaa.PShellReads Go.Proofs.YtkoldjmhcifpjaaW.PrintWords
set_option linter.unusedVariables false
set_option linter.unusedSimpArgs false
set_option maxHeartbeats 2000000 in
set_option maxRecDepth 100000 in
theorem sw8 (w W : World) (n : Nat) (wd vl : Bs) (hf c : UInt8) (L : Ln) (v : Value) (en ov : Bool) (hen : en = true → c = 0) (hov : ov = (en || isBl c)) (hwd : wd.length ≤ 16) (hvl : vl.length ≤ 4097) (hn : n ≤ 4097) (hol : L.opts.length ≤ 4097) (hq : Rq w W L v)
    (K : Act → World → Prop) (Q : Exit → Act → World → Prop)
    (y0 y1 y2 y3 y4 y5 y12 y17 y18 y19 y20 y21 y22 y23 y24 y25 y26 y27 y28 y29 y30 y31 y32 y33 y34 y35 y36 y37 y38 y39 y40 y41 y42 y43 y44 y45 y46 y48 y49 y50 y51 y52 y53 y54 y55 y56 y57 y58 y59 y60 y61 y62 y63 y64 y65 y66 y67 y68 y69 y70 y71 y72 y73 y74 y75 y76 y77 y78 y79 y80 y81 y82 y83 y84 y85 y86 y87 y88 y89 y90 y91 y92 y93 y94 y95 y96 y97 y98 y99 y100 y101 y102 y103 y104 y105 y106 y107 y108 y109 y110 y111 y112 y113 y114 y115 y116 y117 y118 y119 y120 y121 y122 y123 y124 y125 y126 y127 y128 y129 y130 y131 y132 y133 y134 y135 y136 y137 y138 y139 y140 y141 y142 y143 y144 y145 y146 y147 y148 y149 y150 y151 y152 y153 y154 y155 y156 y157 y158 y159 y160 y161 y162 y163 y164 y165 y166 y167 y168 y169 y170 y171 y172 y173 y174 y175 y176 y177 y178 y179 y180 y181 y182 y183 y184 y185 y186 y187 y188 y189 y190 y191 y192 y193 y194 y195 y196 y197 y198 y199 y200 y201 y202 y203 y204 y205 y206 y207 y208 y209 y210 y211 y212 y213 y214 y215 y216 y217 y218 y219 y220 y221 y222 y223 y224 y225 y226 y227 y228 y229 y230 y231 y232 : Value)
    (hK : ∀ (v7 v8 v9 v10 v11 v16 v47 v48 v49 v50 v51 v52 v53 v54 v55 v56 v57 v58 v59 v60 v61 v62 v63 v64 v65 v66 v67 v68 v69 v70 v71 v72 v73 v74 v75 v76 v77 v78 v79 v80 v81 v82 v83 v84 v85 v86 v87 v88 v89 v90 v91 v92 v93 v94 v95 v96 v97 v98 v99 v100 v101 v102 v103 v104 v105 v106 v107 v108 v109 v110 v111 v112 v113 v114 v115 v116 v117 v118 v119 v120 v121 v122 v123 v124 v125 v126 v127 v128 v129 v130 v131 v132 v133 v134 v135 v136 v137 v138 v139 v140 v141 v142 v143 v144 v145 v146 v147 v148 v149 v150 v151 v152 v153 v154 v155 v156 v157 v158 v159 v160 v161 v162 v163 v164 v165 v166 v167 v168 v169 v170 v171 v172 v173 v174 v175 v176 v177 v178 v179 v180 v181 v182 v183 v184 v185 v186 v187 v188 v189 v190 v191 v192 v193 v194 v195 v196 v197 v198 v199 v200 v201 v202 v203 v204 v205 v206 v207 v208 v209 v210 v211 v212 v213 v214 v215 v216 v217 v218 v219 v220 v221 v222 v223 v224 v225 v226 v227 : Value) (W' : World), SwR w ⟨8, n, wd, vl, hf, L⟩ c en v7 v8 v9 v10 v11 v16 W' → K { tmps := #[y0, y1, y2, y3, y4, y5, .pointer (some ⟨w.heap.size + 1 + 1, 0, none⟩), v7, v8, v9, v10, v11, y12, .bool en, .int .u8 (c.toNat : Int), .bool ov, v16, y17, y18, y19, y20, y21, y22, y23, y24, y25, y26, y27, y28, y29, y30, y31, y32, y33, y34, y35, y36, y37, y38, y39, y40, y41, y42, y43, y44, y45, y46, v47, v48, v49, v50, v51, v52, v53, v54, v55, v56, v57, v58, v59, v60, v61, v62, v63, v64, v65, v66, v67, v68, v69, v70, v71, v72, v73, v74, v75, v76, v77, v78, v79, v80, v81, v82, v83, v84, v85, v86, v87, v88, v89, v90, v91, v92, v93, v94, v95, v96, v97, v98, v99, v100, v101, v102, v103, v104, v105, v106, v107, v108, v109, v110, v111, v112, v113, v114, v115, v116, v117, v118, v119, v120, v121, v122, v123, v124, v125, v126, v127, v128, v129, v130, v131, v132, v133, v134, v135, v136, v137, v138, v139, v140, v141, v142, v143, v144, v145, v146, v147, v148, v149, v150, v151, v152, v153, v154, v155, v156, v157, v158, v159, v160, v161, v162, v163, v164, v165, v166, v167, v168, v169, v170, v171, v172, v173, v174, v175, v176, v177, v178, v179, v180, v181, v182, v183, v184, v185, v186, v187, v188, v189, v190, v191, v192, v193, v194, v195, v196, v197, v198, v199, v200, v201, v202, v203, v204, v205, v206, v207, v208, v209, v210, v211, v212, v213, v214, v215, v216, v217, v218, v219, v220, v221, v222, v223, v224, v225, v226, v227, y228, y229, y230, y231, y232], defers := [] } W') :
    swC.wp Try.prog (Exit.then K Q) { tmps := #[y0, y1, y2, y3, y4, y5, .pointer (some ⟨w.heap.size + 1 + 1, 0, none⟩), .int .i64 8, .int .i64 (n : Int), .string ⟨wd.toArray⟩, .string ⟨vl.toArray⟩, .int .i64 (hf.toNat : Int), y12, .bool en, .int .u8 (c.toNat : Int), .bool ov, .bool false, y17, y18, y19, y20, y21, y22, y23, y24, y25, y26, y27, y28, y29, y30, y31, y32, y33, y34, y35, y36, y37, y38, y39, y40, y41, y42, y43, y44, y45, y46, .int .i64 8, y48, y49, y50, y51, y52, y53, y54, y55, y56, y57, y58, y59, y60, y61, y62, y63, y64, y65, y66, y67, y68, y69, y70, y71, y72, y73, y74, y75, y76, y77, y78, y79, y80, y81, y82, y83, y84, y85, y86, y87, y88, y89, y90, y91, y92, y93, y94, y95, y96, y97, y98, y99, y100, y101, y102, y103, y104, y105, y106, y107, y108, y109, y110, y111, y112, y113, y114, y115, y116, y117, y118, y119, y120, y121, y122, y123, y124, y125, y126, y127, y128, y129, y130, y131, y132, y133, y134, y135, y136, y137, y138, y139, y140, y141, y142, y143, y144, y145, y146, y147, y148, y149, y150, y151, y152, y153, y154, y155, y156, y157, y158, y159, y160, y161, y162, y163, y164, y165, y166, y167, y168, y169, y170, y171, y172, y173, y174, y175, y176, y177, y178, y179, y180, y181, y182, y183, y184, y185, y186, y187, y188, y189, y190, y191, y192, y193, y194, y195, y196, y197, y198, y199, y200, y201, y202, y203, y204, y205, y206, y207, y208, y209, y210, y211, y212, y213, y214, y215, y216, y217, y218, y219, y220, y221, y222, y223, y224, y225, y226, y227, y228, y229, y230, y231, y232], defers := [] } W := by
  have HK := Aside0.mk hK
  have HQ := Aside0.mk hq
  clear hK hq
  have hcv := conv1
  have hcv1 := conv1d
  have hcv2 := conv1d2
  have hcv3 := conv1d3
  by_cases hc120 : c = 120
  · obtain rfl : en = false := by cases en with | false => rfl | true => (rw [hen rfl] at hc120; exact absurd hc120 (by decide))
    clear hov hen
    have HC120 := Aside0.mk hc120
    have e120 : ((c.toNat : Int) == 120) = true := beq_yes (d := 120) rfl hc120
    clear hc120
    dsimp only [swC, swOf, Try.f6, Option.getD]
    go_wp2_with fail
    refine HK.out _ _ _ _ _ _ _ _ _ _ _ _ _ _ _ _ _ _ _ _ _ _ _ _ _ _ _ _ _ _ _ _ _ _ _ _ _ _ _ _ _ _ _ _ _ _ _ _ _ _ _ _ _ _ _ _ _ _ _ _ _ _ _ _ _ _ _ _ _ _ _ _ _ _ _ _ _ _ _ _ _ _ _ _ _ _ _ _ _ _ _ _ _ _ _ _ _ _ _ _ _ _ _ _ _ _ _ _ _ _ _ _ _ _ _ _ _ _ _ _ _ _ _ _ _ _ _ _ _ _ _ _ _ _ _ _ _ _ _ _ _ _ _ _ _ _ _ _ _ _ _ _ _ _ _ _ _ _ _ _ _ _ _ _ _ _ _ _ _ _ _ _ _ _ _ _ _ _ _ _ _ _ _ _ _ _ _ _ ?_
    exact SwR.good ⟨9, n, wd, vl, hf, L⟩ v (rfl) (rfl) (rfl) (rfl) (rfl) (by repeat (first | exact HQ.out | refine rq_alloc ?_ _ | refine rq_drewN ?_ _)) (by simp [stepc, HC120.out])
  · by_cases hc34 : c = 34
    · obtain rfl : en = false := by cases en with | false => rfl | true => (rw [hen rfl] at hc34; exact absurd hc34 (by decide))
      clear hov hen
      have HC34 := Aside0.mk hc34
      have e34 : ((c.toNat : Int) == 34) = true := beq_yes (d := 34) rfl hc34
      clear hc34
      have HC120 := Aside0.mk hc120
      have e120 : ((c.toNat : Int) == 120) = false := beq_no (d := 120) rfl hc120
      clear hc120
      have n34 : ((c.toNat : Int) != 34) = false := bne_yes (d := 34) rfl HC34.out
      dsimp only [swC, swOf, Try.f6, Option.getD]
      go_wp2_with (first | (go_at_call 14; refine (letterQ c _).mono ?_; rintro e w' ⟨rfl, m, rfl⟩) | (go_at_call 15; refine (digitQ c _).mono ?_; rintro e w' ⟨rfl, m, rfl⟩) | (go_at_call 16; refine (hexaQ c _).mono ?_; rintro e w' ⟨rfl, m, rfl⟩) | fail)
      refine HK.out _ _ _ _ _ _ _ _ _ _ _ _ _ _ _ _ _ _ _ _ _ _ _ _ _ _ _ _ _ _ _ _ _ _ _ _ _ _ _ _ _ _ _ _ _ _ _ _ _ _ _ _ _ _ _ _ _ _ _ _ _ _ _ _ _ _ _ _ _ _ _ _ _ _ _ _ _ _ _ _ _ _ _ _ _ _ _ _ _ _ _ _ _ _ _ _ _ _ _ _ _ _ _ _ _ _ _ _ _ _ _ _ _ _ _ _ _ _ _ _ _ _ _ _ _ _ _ _ _ _ _ _ _ _ _ _ _ _ _ _ _ _ _ _ _ _ _ _ _ _ _ _ _ _ _ _ _ _ _ _ _ _ _ _ _ _ _ _ _ _ _ _ _ _ _ _ _ _ _ _ _ _ _ _ _ _ _ _ ?_
      exact SwR.good ⟨7, n, wd, vl ++ [c], hf, L⟩ v (rfl) (rfl) (rfl) (congrArg Value.string (str_snoc _ _)) (rfl) (by repeat (first | exact HQ.out | refine rq_alloc ?_ _ | refine rq_drewN ?_ _)) (by simp [stepc, HC34.out])
    · by_cases hc92 : c = 92
      · obtain rfl : en = false := by cases en with | false => rfl | true => (rw [hen rfl] at hc92; exact absurd hc92 (by decide))
        clear hov hen
        have HC92 := Aside0.mk hc92
        have e92 : ((c.toNat : Int) == 92) = true := beq_yes (d := 92) rfl hc92
        clear hc92
        have HC120 := Aside0.mk hc120
        have e120 : ((c.toNat : Int) == 120) = false := beq_no (d := 120) rfl hc120
        clear hc120
        have HC34 := Aside0.mk hc34
        have e34 : ((c.toNat : Int) == 34) = false := beq_no (d := 34) rfl hc34
        clear hc34
        have n34 : ((c.toNat : Int) != 34) = true := bne_no (d := 34) rfl HC34.out
        have n92 : ((c.toNat : Int) != 92) = false := bne_yes (d := 92) rfl HC92.out
        dsimp only [swC, swOf, Try.f6, Option.getD]
        go_wp2_with (first | (go_at_call 14; refine (letterQ c _).mono ?_; rintro e w' ⟨rfl, m, rfl⟩) | (go_at_call 15; refine (digitQ c _).mono ?_; rintro e w' ⟨rfl, m, rfl⟩) | (go_at_call 16; refine (hexaQ c _).mono ?_; rintro e w' ⟨rfl, m, rfl⟩) | fail)
        refine HK.out _ _ _ _ _ _ _ _ _ _ _ _ _ _ _ _ _ _ _ _ _ _ _ _ _ _ _ _ _ _ _ _ _ _ _ _ _ _ _ _ _ _ _ _ _ _ _ _ _ _ _ _ _ _ _ _ _ _ _ _ _ _ _ _ _ _ _ _ _ _ _ _ _ _ _ _ _ _ _ _ _ _ _ _ _ _ _ _ _ _ _ _ _ _ _ _ _ _ _ _ _ _ _ _ _ _ _ _ _ _ _ _ _ _ _ _ _ _ _ _ _ _ _ _ _ _ _ _ _ _ _ _ _ _ _ _ _ _ _ _ _ _ _ _ _ _ _ _ _ _ _ _ _ _ _ _ _ _ _ _ _ _ _ _ _ _ _ _ _ _ _ _ _ _ _ _ _ _ _ _ _ _ _ _ _ _ _ _ ?_
        exact SwR.good ⟨7, n, wd, vl ++ [c], hf, L⟩ v (rfl) (rfl) (rfl) (congrArg Value.string (str_snoc _ _)) (rfl) (by repeat (first | exact HQ.out | refine rq_alloc ?_ _ | refine rq_drewN ?_ _)) (by simp [stepc, HC92.out])
      · have HC92 := Aside0.mk hc92
        have e92 : ((c.toNat : Int) == 92) = false := beq_no (d := 92) rfl hc92
        clear hc92
        have HC120 := Aside0.mk hc120
        have e120 : ((c.toNat : Int) == 120) = false := beq_no (d := 120) rfl hc120
        clear hc120
        have HC34 := Aside0.mk hc34
        have e34 : ((c.toNat : Int) == 34) = false := beq_no (d := 34) rfl hc34
        clear hc34
        have n34 : ((c.toNat : Int) != 34) = true := bne_no (d := 34) rfl HC34.out
        have n92 : ((c.toNat : Int) != 92) = true := bne_no (d := 92) rfl HC92.out
        clear hov hen
        dsimp only [swC, swOf, Try.f6, Option.getD]
        go_wp2_with (first | (go_at_call 14; refine (letterQ c _).mono ?_; rintro e w' ⟨rfl, m, rfl⟩) | (go_at_call 15; refine (digitQ c _).mono ?_; rintro e w' ⟨rfl, m, rfl⟩) | (go_at_call 16; refine (hexaQ c _).mono ?_; rintro e w' ⟨rfl, m, rfl⟩) | fail)
        refine HK.out _ _ _ _ _ _ _ _ _ _ _ _ _ _ _ _ _ _ _ _ _ _ _ _ _ _ _ _ _ _ _ _ _ _ _ _ _ _ _ _ _ _ _ _ _ _ _ _ _ _ _ _ _ _ _ _ _ _ _ _ _ _ _ _ _ _ _ _ _ _ _ _ _ _ _ _ _ _ _ _ _ _ _ _ _ _ _ _ _ _ _ _ _ _ _ _ _ _ _ _ _ _ _ _ _ _ _ _ _ _ _ _ _ _ _ _ _ _ _ _ _ _ _ _ _ _ _ _ _ _ _ _ _ _ _ _ _ _ _ _ _ _ _ _ _ _ _ _ _ _ _ _ _ _ _ _ _ _ _ _ _ _ _ _ _ _ _ _ _ _ _ _ _ _ _ _ _ _ _ _ _ _ _ _ _ _ _ _ ?_
        exact SwR.bad (by repeat (first | exact HQ.out.z | refine rz_alloc ?_ _ | refine rz_drewN ?_ _)) (by cases en with | true => rfl | false => simp [stepc, HC34.out, HC92.out, HC120.out])

end Go.Proofs.Ytkoldjmhcifpjaa.refs
/-! ## RefS9 -/
namespace Go.Proofs.Ytkoldjmhcifpjaa.refs
open Go Go.RowKit Go.Proofs.Ytkoldjmhcifpjaa.parsep Go.Proofs.Ytkoldjmhcifpjaa.reada Go.Proofs.Ytkoldjmhcifpjaa.readi Go.Proofs.Ytkoldjmhcifpjaa.refa Go.Proofs.Ytkoldjmhcifpjaa.refc Go.Proofs.Ytkoldjmhcifpjaa.PShellReads Go.Proofs.YtkoldjmhcifpjaaW.PrintWords
set_option linter.unusedVariables false
set_option linter.unusedSimpArgs false
set_option maxHeartbeats 2000000 in
set_option maxRecDepth 100000 in
theorem sw9 (w W : World) (n : Nat) (wd vl : Bs) (hf c : UInt8) (L : Ln) (v : Value) (en ov : Bool) (hen : en = true → c = 0) (hov : ov = (en || isBl c)) (hwd : wd.length ≤ 16) (hvl : vl.length ≤ 4097) (hn : n ≤ 4097) (hol : L.opts.length ≤ 4097) (hq : Rq w W L v)
    (K : Act → World → Prop) (Q : Exit → Act → World → Prop)
    (y0 y1 y2 y3 y4 y5 y12 y17 y18 y19 y20 y21 y22 y23 y24 y25 y26 y27 y28 y29 y30 y31 y32 y33 y34 y35 y36 y37 y38 y39 y40 y41 y42 y43 y44 y45 y46 y48 y49 y50 y51 y52 y53 y54 y55 y56 y57 y58 y59 y60 y61 y62 y63 y64 y65 y66 y67 y68 y69 y70 y71 y72 y73 y74 y75 y76 y77 y78 y79 y80 y81 y82 y83 y84 y85 y86 y87 y88 y89 y90 y91 y92 y93 y94 y95 y96 y97 y98 y99 y100 y101 y102 y103 y104 y105 y106 y107 y108 y109 y110 y111 y112 y113 y114 y115 y116 y117 y118 y119 y120 y121 y122 y123 y124 y125 y126 y127 y128 y129 y130 y131 y132 y133 y134 y135 y136 y137 y138 y139 y140 y141 y142 y143 y144 y145 y146 y147 y148 y149 y150 y151 y152 y153 y154 y155 y156 y157 y158 y159 y160 y161 y162 y163 y164 y165 y166 y167 y168 y169 y170 y171 y172 y173 y174 y175 y176 y177 y178 y179 y180 y181 y182 y183 y184 y185 y186 y187 y188 y189 y190 y191 y192 y193 y194 y195 y196 y197 y198 y199 y200 y201 y202 y203 y204 y205 y206 y207 y208 y209 y210 y211 y212 y213 y214 y215 y216 y217 y218 y219 y220 y221 y222 y223 y224 y225 y226 y227 y228 y229 y230 y231 y232 : Value)
    (hK : ∀ (v7 v8 v9 v10 v11 v16 v47 v48 v49 v50 v51 v52 v53 v54 v55 v56 v57 v58 v59 v60 v61 v62 v63 v64 v65 v66 v67 v68 v69 v70 v71 v72 v73 v74 v75 v76 v77 v78 v79 v80 v81 v82 v83 v84 v85 v86 v87 v88 v89 v90 v91 v92 v93 v94 v95 v96 v97 v98 v99 v100 v101 v102 v103 v104 v105 v106 v107 v108 v109 v110 v111 v112 v113 v114 v115 v116 v117 v118 v119 v120 v121 v122 v123 v124 v125 v126 v127 v128 v129 v130 v131 v132 v133 v134 v135 v136 v137 v138 v139 v140 v141 v142 v143 v144 v145 v146 v147 v148 v149 v150 v151 v152 v153 v154 v155 v156 v157 v158 v159 v160 v161 v162 v163 v164 v165 v166 v167 v168 v169 v170 v171 v172 v173 v174 v175 v176 v177 v178 v179 v180 v181 v182 v183 v184 v185 v186 v187 v188 v189 v190 v191 v192 v193 v194 v195 v196 v197 v198 v199 v200 v201 v202 v203 v204 v205 v206 v207 v208 v209 v210 v211 v212 v213 v214 v215 v216 v217 v218 v219 v220 v221 v222 v223 v224 v225 v226 v227 : Value) (W' : World), SwR w ⟨9, n, wd, vl, hf, L⟩ c en v7 v8 v9 v10 v11 v16 W' → K { tmps := #[y0, y1, y2, y3, y4, y5, .pointer (some ⟨w.heap.size + 1 + 1, 0, none⟩), v7, v8, v9, v10, v11, y12, .bool en, .int .u8 (c.toNat : Int), .bool ov, v16, y17, y18, y19, y20, y21, y22, y23, y24, y25, y26, y27, y28, y29, y30, y31, y32, y33, y34, y35, y36, y37, y38, y39, y40, y41, y42, y43, y44, y45, y46, v47, v48, v49, v50, v51, v52, v53, v54, v55, v56, v57, v58, v59, v60, v61, v62, v63, v64, v65, v66, v67, v68, v69, v70, v71, v72, v73, v74, v75, v76, v77, v78, v79, v80, v81, v82, v83, v84, v85, v86, v87, v88, v89, v90, v91, v92, v93, v94, v95, v96, v97, v98, v99, v100, v101, v102, v103, v104, v105, v106, v107, v108, v109, v110, v111, v112, v113, v114, v115, v116, v117, v118, v119, v120, v121, v122, v123, v124, v125, v126, v127, v128, v129, v130, v131, v132, v133, v134, v135, v136, v137, v138, v139, v140, v141, v142, v143, v144, v145, v146, v147, v148, v149, v150, v151, v152, v153, v154, v155, v156, v157, v158, v159, v160, v161, v162, v163, v164, v165, v166, v167, v168, v169, v170, v171, v172, v173, v174, v175, v176, v177, v178, v179, v180, v181, v182, v183, v184, v185, v186, v187, v188, v189, v190, v191, v192, v193, v194, v195, v196, v197, v198, v199, v200, v201, v202, v203, v204, v205, v206, v207, v208, v209, v210, v211, v212, v213, v214, v215, v216, v217, v218, v219, v220, v221, v222, v223, v224, v225, v226, v227, y228, y229, y230, y231, y232], defers := [] } W') :
    swC.wp Try.prog (Exit.then K Q) { tmps := #[y0, y1, y2, y3, y4, y5, .pointer (some ⟨w.heap.size + 1 + 1, 0, none⟩), .int .i64 9, .int .i64 (n : Int), .string ⟨wd.toArray⟩, .string ⟨vl.toArray⟩, .int .i64 (hf.toNat : Int), y12, .bool en, .int .u8 (c.toNat : Int), .bool ov, .bool false, y17, y18, y19, y20, y21, y22, y23, y24, y25, y26, y27, y28, y29, y30, y31, y32, y33, y34, y35, y36, y37, y38, y39, y40, y41, y42, y43, y44, y45, y46, .int .i64 9, y48, y49, y50, y51, y52, y53, y54, y55, y56, y57, y58, y59, y60, y61, y62, y63, y64, y65, y66, y67, y68, y69, y70, y71, y72, y73, y74, y75, y76, y77, y78, y79, y80, y81, y82, y83, y84, y85, y86, y87, y88, y89, y90, y91, y92, y93, y94, y95, y96, y97, y98, y99, y100, y101, y102, y103, y104, y105, y106, y107, y108, y109, y110, y111, y112, y113, y114, y115, y116, y117, y118, y119, y120, y121, y122, y123, y124, y125, y126, y127, y128, y129, y130, y131, y132, y133, y134, y135, y136, y137, y138, y139, y140, y141, y142, y143, y144, y145, y146, y147, y148, y149, y150, y151, y152, y153, y154, y155, y156, y157, y158, y159, y160, y161, y162, y163, y164, y165, y166, y167, y168, y169, y170, y171, y172, y173, y174, y175, y176, y177, y178, y179, y180, y181, y182, y183, y184, y185, y186, y187, y188, y189, y190, y191, y192, y193, y194, y195, y196, y197, y198, y199, y200, y201, y202, y203, y204, y205, y206, y207, y208, y209, y210, y211, y212, y213, y214, y215, y216, y217, y218, y219, y220, y221, y222, y223, y224, y225, y226, y227, y228, y229, y230, y231, y232], defers := [] } W := by
  have HK := Aside0.mk hK
  have HQ := Aside0.mk hq
  clear hK hq
  have hcv := conv1
  have hcv1 := conv1d
  have hcv2 := conv1d2
  have hcv3 := conv1d3
  by_cases hh : isHex c = true
  · have hef : en = false := by cases en with | false => rfl | true => (rw [hen rfl] at hh; exact absurd hh (by decide))
    subst hef
    clear hov hen
    have hX : hx c = ((hexv c).toNat : Int) := by simp [hx, hh]
    have hXn : ¬ ((hexv c).toNat : Int) < 0 := by omega
    have HH := Aside0.mk hh
    clear hh
    dsimp only [swC, swOf, Try.f6, Option.getD]
    go_wp2_with (first | (go_at_call 14; refine (letterQ c _).mono ?_; rintro e w' ⟨rfl, m, rfl⟩) | (go_at_call 15; refine (digitQ c _).mono ?_; rintro e w' ⟨rfl, m, rfl⟩) | (go_at_call 16; refine (hexaQ c _).mono ?_; rintro e w' ⟨rfl, m, rfl⟩) | fail)
    refine HK.out _ _ _ _ _ _ _ _ _ _ _ _ _ _ _ _ _ _ _ _ _ _ _ _ _ _ _ _ _ _ _ _ _ _ _ _ _ _ _ _ _ _ _ _ _ _ _ _ _ _ _ _ _ _ _ _ _ _ _ _ _ _ _ _ _ _ _ _ _ _ _ _ _ _ _ _ _ _ _ _ _ _ _ _ _ _ _ _ _ _ _ _ _ _ _ _ _ _ _ _ _ _ _ _ _ _ _ _ _ _ _ _ _ _ _ _ _ _ _ _ _ _ _ _ _ _ _ _ _ _ _ _ _ _ _ _ _ _ _ _ _ _ _ _ _ _ _ _ _ _ _ _ _ _ _ _ _ _ _ _ _ _ _ _ _ _ _ _ _ _ _ _ _ _ _ _ _ _ _ _ _ _ _ _ _ _ _ _ ?_
    exact SwR.good ⟨10, n, wd, vl, hexv c, L⟩ v (rfl) (rfl) (rfl) (rfl) (rfl) (by repeat (first | exact HQ.out | refine rq_alloc ?_ _ | refine rq_drewN ?_ _)) (by simp [stepc, HH.out])
  · have hh : isHex c = false := by simpa using hh
    clear hov hen
    have hX : hx c = -1 := by simp [hx, hh]
    have HH := Aside0.mk hh
    clear hh
    dsimp only [swC, swOf, Try.f6, Option.getD]
    go_wp2_with (first | (go_at_call 14; refine (letterQ c _).mono ?_; rintro e w' ⟨rfl, m, rfl⟩) | (go_at_call 15; refine (digitQ c _).mono ?_; rintro e w' ⟨rfl, m, rfl⟩) | (go_at_call 16; refine (hexaQ c _).mono ?_; rintro e w' ⟨rfl, m, rfl⟩) | fail)
    refine HK.out _ _ _ _ _ _ _ _ _ _ _ _ _ _ _ _ _ _ _ _ _ _ _ _ _ _ _ _ _ _ _ _ _ _ _ _ _ _ _ _ _ _ _ _ _ _ _ _ _ _ _ _ _ _ _ _ _ _ _ _ _ _ _ _ _ _ _ _ _ _ _ _ _ _ _ _ _ _ _ _ _ _ _ _ _ _ _ _ _ _ _ _ _ _ _ _ _ _ _ _ _ _ _ _ _ _ _ _ _ _ _ _ _ _ _ _ _ _ _ _ _ _ _ _ _ _ _ _ _ _ _ _ _ _ _ _ _ _ _ _ _ _ _ _ _ _ _ _ _ _ _ _ _ _ _ _ _ _ _ _ _ _ _ _ _ _ _ _ _ _ _ _ _ _ _ _ _ _ _ _ _ _ _ _ _ _ _ _ ?_
    exact SwR.bad (by repeat (first | exact HQ.out.z | refine rz_alloc ?_ _ | refine rz_drewN ?_ _)) (by cases en with | true => rfl | false => simp [stepc, HH.out])

end Go.Proofs.Ytkoldjmhcifpjaa.refs
/-! ## RefS10 -/
namespace Go.Proofs.Ytkoldjmhcifpjaa.refs
open Go Go.RowKit Go.Proofs.Ytkoldjmhcifpjaa.parsep Go.Proofs.Ytkoldjmhcifpjaa.reada Go.Proofs.Ytkoldjmhcifpjaa.readi Go.Proofs.Ytkoldjmhcifpjaa.refa Go.Proofs.Ytkoldjmhcifpjaa.refc Go.Proofs.Ytkoldjmhcifpjaa.PShellReads Go.Proofs.YtkoldjmhcifpjaaW.PrintWords
set_option linter.unusedVariables false
set_option linter.unusedSimpArgs false
set_option maxHeartbeats 2000000 in
set_option maxRecDepth 100000 in
theorem sw10 (w W : World) (n : Nat) (wd vl : Bs) (hf c : UInt8) (L : Ln) (v : Value) (en ov : Bool) (hen : en = true → c = 0) (hov : ov = (en || isBl c)) (hwd : wd.length ≤ 16) (hvl : vl.length ≤ 4097) (hn : n ≤ 4097) (hol : L.opts.length ≤ 4097) (hq : Rq w W L v)
    (K : Act → World → Prop) (Q : Exit → Act → World → Prop)
    (y0 y1 y2 y3 y4 y5 y12 y17 y18 y19 y20 y21 y22 y23 y24 y25 y26 y27 y28 y29 y30 y31 y32 y33 y34 y35 y36 y37 y38 y39 y40 y41 y42 y43 y44 y45 y46 y48 y49 y50 y51 y52 y53 y54 y55 y56 y57 y58 y59 y60 y61 y62 y63 y64 y65 y66 y67 y68 y69 y70 y71 y72 y73 y74 y75 y76 y77 y78 y79 y80 y81 y82 y83 y84 y85 y86 y87 y88 y89 y90 y91 y92 y93 y94 y95 y96 y97 y98 y99 y100 y101 y102 y103 y104 y105 y106 y107 y108 y109 y110 y111 y112 y113 y114 y115 y116 y117 y118 y119 y120 y121 y122 y123 y124 y125 y126 y127 y128 y129 y130 y131 y132 y133 y134 y135 y136 y137 y138 y139 y140 y141 y142 y143 y144 y145 y146 y147 y148 y149 y150 y151 y152 y153 y154 y155 y156 y157 y158 y159 y160 y161 y162 y163 y164 y165 y166 y167 y168 y169 y170 y171 y172 y173 y174 y175 y176 y177 y178 y179 y180 y181 y182 y183 y184 y185 y186 y187 y188 y189 y190 y191 y192 y193 y194 y195 y196 y197 y198 y199 y200 y201 y202 y203 y204 y205 y206 y207 y208 y209 y210 y211 y212 y213 y214 y215 y216 y217 y218 y219 y220 y221 y222 y223 y224 y225 y226 y227 y228 y229 y230 y231 y232 : Value)
    (hK : ∀ (v7 v8 v9 v10 v11 v16 v47 v48 v49 v50 v51 v52 v53 v54 v55 v56 v57 v58 v59 v60 v61 v62 v63 v64 v65 v66 v67 v68 v69 v70 v71 v72 v73 v74 v75 v76 v77 v78 v79 v80 v81 v82 v83 v84 v85 v86 v87 v88 v89 v90 v91 v92 v93 v94 v95 v96 v97 v98 v99 v100 v101 v102 v103 v104 v105 v106 v107 v108 v109 v110 v111 v112 v113 v114 v115 v116 v117 v118 v119 v120 v121 v122 v123 v124 v125 v126 v127 v128 v129 v130 v131 v132 v133 v134 v135 v136 v137 v138 v139 v140 v141 v142 v143 v144 v145 v146 v147 v148 v149 v150 v151 v152 v153 v154 v155 v156 v157 v158 v159 v160 v161 v162 v163 v164 v165 v166 v167 v168 v169 v170 v171 v172 v173 v174 v175 v176 v177 v178 v179 v180 v181 v182 v183 v184 v185 v186 v187 v188 v189 v190 v191 v192 v193 v194 v195 v196 v197 v198 v199 v200 v201 v202 v203 v204 v205 v206 v207 v208 v209 v210 v211 v212 v213 v214 v215 v216 v217 v218 v219 v220 v221 v222 v223 v224 v225 v226 v227 : Value) (W' : World), SwR w ⟨10, n, wd, vl, hf, L⟩ c en v7 v8 v9 v10 v11 v16 W' → K { tmps := #[y0, y1, y2, y3, y4, y5, .pointer (some ⟨w.heap.size + 1 + 1, 0, none⟩), v7, v8, v9, v10, v11, y12, .bool en, .int .u8 (c.toNat : Int), .bool ov, v16, y17, y18, y19, y20, y21, y22, y23, y24, y25, y26, y27, y28, y29, y30, y31, y32, y33, y34, y35, y36, y37, y38, y39, y40, y41, y42, y43, y44, y45, y46, v47, v48, v49, v50, v51, v52, v53, v54, v55, v56, v57, v58, v59, v60, v61, v62, v63, v64, v65, v66, v67, v68, v69, v70, v71, v72, v73, v74, v75, v76, v77, v78, v79, v80, v81, v82, v83, v84, v85, v86, v87, v88, v89, v90, v91, v92, v93, v94, v95, v96, v97, v98, v99, v100, v101, v102, v103, v104, v105, v106, v107, v108, v109, v110, v111, v112, v113, v114, v115, v116, v117, v118, v119, v120, v121, v122, v123, v124, v125, v126, v127, v128, v129, v130, v131, v132, v133, v134, v135, v136, v137, v138, v139, v140, v141, v142, v143, v144, v145, v146, v147, v148, v149, v150, v151, v152, v153, v154, v155, v156, v157, v158, v159, v160, v161, v162, v163, v164, v165, v166, v167, v168, v169, v170, v171, v172, v173, v174, v175, v176, v177, v178, v179, v180, v181, v182, v183, v184, v185, v186, v187, v188, v189, v190, v191, v192, v193, v194, v195, v196, v197, v198, v199, v200, v201, v202, v203, v204, v205, v206, v207, v208, v209, v210, v211, v212, v213, v214, v215, v216, v217, v218, v219, v220, v221, v222, v223, v224, v225, v226, v227, y228, y229, y230, y231, y232], defers := [] } W') :
    swC.wp Try.prog (Exit.then K Q) { tmps := #[y0, y1, y2, y3, y4, y5, .pointer (some ⟨w.heap.size + 1 + 1, 0, none⟩), .int .i64 10, .int .i64 (n : Int), .string ⟨wd.toArray⟩, .string ⟨vl.toArray⟩, .int .i64 (hf.toNat : Int), y12, .bool en, .int .u8 (c.toNat : Int), .bool ov, .bool false, y17, y18, y19, y20, y21, y22, y23, y24, y25, y26, y27, y28, y29, y30, y31, y32, y33, y34, y35, y36, y37, y38, y39, y40, y41, y42, y43, y44, y45, y46, .int .i64 10, y48, y49, y50, y51, y52, y53, y54, y55, y56, y57, y58, y59, y60, y61, y62, y63, y64, y65, y66, y67, y68, y69, y70, y71, y72, y73, y74, y75, y76, y77, y78, y79, y80, y81, y82, y83, y84, y85, y86, y87, y88, y89, y90, y91, y92, y93, y94, y95, y96, y97, y98, y99, y100, y101, y102, y103, y104, y105, y106, y107, y108, y109, y110, y111, y112, y113, y114, y115, y116, y117, y118, y119, y120, y121, y122, y123, y124, y125, y126, y127, y128, y129, y130, y131, y132, y133, y134, y135, y136, y137, y138, y139, y140, y141, y142, y143, y144, y145, y146, y147, y148, y149, y150, y151, y152, y153, y154, y155, y156, y157, y158, y159, y160, y161, y162, y163, y164, y165, y166, y167, y168, y169, y170, y171, y172, y173, y174, y175, y176, y177, y178, y179, y180, y181, y182, y183, y184, y185, y186, y187, y188, y189, y190, y191, y192, y193, y194, y195, y196, y197, y198, y199, y200, y201, y202, y203, y204, y205, y206, y207, y208, y209, y210, y211, y212, y213, y214, y215, y216, y217, y218, y219, y220, y221, y222, y223, y224, y225, y226, y227, y228, y229, y230, y231, y232], defers := [] } W := by
  have HK := Aside0.mk hK
  have HQ := Aside0.mk hq
  clear hK hq
  have hcv := conv1
  have hcv1 := conv1d
  have hcv2 := conv1d2
  have hcv3 := conv1d3
  by_cases hh : isHex c = true
  · have hef : en = false := by cases en with | false => rfl | true => (rw [hen rfl] at hh; exact absurd hh (by decide))
    subst hef
    clear hov hen
    have hX : hx c = ((hexv c).toNat : Int) := by simp [hx, hh]
    have hXn : ¬ ((hexv c).toNat : Int) < 0 := by omega
    have HH := Aside0.mk hh
    clear hh
    have hw : IntKind.u8.wrap (16 * (hf.toNat : Int) + ((hexv c).toNat : Int)) = ((16 * hf + hexv c).toNat : Int) := u8_sum hf (hexv c)
    have hb1 : (hf.toNat : Int) ≤ 255 := by have := hf.toNat_lt; omega
    have hb2 : ((hexv c).toNat : Int) ≤ 255 := by have := (hexv c).toNat_lt; omega
    have hw2 : (16 * (hf.toNat : Int) + ((hexv c).toNat : Int)) % 256 = ((16 * hf + hexv c).toNat : Int) := by rw [← hw]; simp [IntKind.wrap, IntKind.bits, IntKind.signed]
    have hk1 : ∀ (W : World) (m : Nat), (Go.convert 39 9 (.slice (some ⟨W.heap.size, 0, none⟩) 1 1)).run Try.prog ((W.drewN m).alloc (.cells #[.int .u8 ((16 * (hf.toNat : Int) + ((hexv c).toNat : Int)) % 256)] 5)) = .ok (.string ⟨#[16 * hf + hexv c]⟩) ((W.drewN m).alloc (.cells #[.int .u8 ((16 * (hf.toNat : Int) + ((hexv c).toNat : Int)) % 256)] 5)) := by intro W m; rw [hw2]; exact conv1d W m _
    clear hw hw2
    clear hcv hcv1 hcv2 hcv3
    dsimp only [swC, swOf, Try.f6, Option.getD]
    go_wp2_with (first | (go_at_call 14; refine (letterQ c _).mono ?_; rintro e w' ⟨rfl, m, rfl⟩) | (go_at_call 15; refine (digitQ c _).mono ?_; rintro e w' ⟨rfl, m, rfl⟩) | (go_at_call 16; refine (hexaQ c _).mono ?_; rintro e w' ⟨rfl, m, rfl⟩) | fail)
    refine HK.out _ _ _ _ _ _ _ _ _ _ _ _ _ _ _ _ _ _ _ _ _ _ _ _ _ _ _ _ _ _ _ _ _ _ _ _ _ _ _ _ _ _ _ _ _ _ _ _ _ _ _ _ _ _ _ _ _ _ _ _ _ _ _ _ _ _ _ _ _ _ _ _ _ _ _ _ _ _ _ _ _ _ _ _ _ _ _ _ _ _ _ _ _ _ _ _ _ _ _ _ _ _ _ _ _ _ _ _ _ _ _ _ _ _ _ _ _ _ _ _ _ _ _ _ _ _ _ _ _ _ _ _ _ _ _ _ _ _ _ _ _ _ _ _ _ _ _ _ _ _ _ _ _ _ _ _ _ _ _ _ _ _ _ _ _ _ _ _ _ _ _ _ _ _ _ _ _ _ _ _ _ _ _ _ _ _ _ _ ?_
    exact SwR.good ⟨7, n, wd, vl ++ [16 * hf + hexv c], hf, L⟩ v (rfl) (rfl) (rfl) (congrArg Value.string (str_snoc _ _)) (rfl) (by repeat (first | exact HQ.out | refine rq_alloc ?_ _ | refine rq_drewN ?_ _)) (by simp [stepc, HH.out])
  · have hh : isHex c = false := by simpa using hh
    clear hov hen
    have hX : hx c = -1 := by simp [hx, hh]
    have HH := Aside0.mk hh
    clear hh
    dsimp only [swC, swOf, Try.f6, Option.getD]
    go_wp2_with (first | (go_at_call 14; refine (letterQ c _).mono ?_; rintro e w' ⟨rfl, m, rfl⟩) | (go_at_call 15; refine (digitQ c _).mono ?_; rintro e w' ⟨rfl, m, rfl⟩) | (go_at_call 16; refine (hexaQ c _).mono ?_; rintro e w' ⟨rfl, m, rfl⟩) | fail)
    refine HK.out _ _ _ _ _ _ _ _ _ _ _ _ _ _ _ _ _ _ _ _ _ _ _ _ _ _ _ _ _ _ _ _ _ _ _ _ _ _ _ _ _ _ _ _ _ _ _ _ _ _ _ _ _ _ _ _ _ _ _ _ _ _ _ _ _ _ _ _ _ _ _ _ _ _ _ _ _ _ _ _ _ _ _ _ _ _ _ _ _ _ _ _ _ _ _ _ _ _ _ _ _ _ _ _ _ _ _ _ _ _ _ _ _ _ _ _ _ _ _ _ _ _ _ _ _ _ _ _ _ _ _ _ _ _ _ _ _ _ _ _ _ _ _ _ _ _ _ _ _ _ _ _ _ _ _ _ _ _ _ _ _ _ _ _ _ _ _ _ _ _ _ _ _ _ _ _ _ _ _ _ _ _ _ _ _ _ _ _ ?_
    exact SwR.bad (by repeat (first | exact HQ.out.z | refine rz_alloc ?_ _ | refine rz_drewN ?_ _)) (by cases en with | true => rfl | false => simp [stepc, HH.out])

end Go.Proofs.Ytkoldjmhcifpjaa.refs
/-! ## RefS11 -/
namespace Go.Proofs.Ytkoldjmhcifpjaa.refs
open Go Go.RowKit Go.Proofs.Ytkoldjmhcifpjaa.parsep Go.Proofs.Ytkoldjmhcifpjaa.reada Go.Proofs.Ytkoldjmhcifpjaa.readi Go.Proofs.Ytkoldjmhcifpjaa.refa Go.Proofs.Ytkoldjmhcifpjaa.refc Go.Proofs.Ytkoldjmhcifpjaa.PShellReads Go.Proofs.YtkoldjmhcifpjaaW.PrintWords
set_option linter.unusedVariables false
set_option linter.unusedSimpArgs false
set_option maxHeartbeats 2000000 in
set_option maxRecDepth 100000 in
theorem sw11 (w W : World) (n : Nat) (wd vl : Bs) (hf c : UInt8) (L : Ln) (v : Value) (en ov : Bool) (hen : en = true → c = 0) (hov : ov = (en || isBl c)) (hwd : wd.length ≤ 16) (hvl : vl.length ≤ 4097) (hn : n ≤ 4097) (hol : L.opts.length ≤ 4097) (hq : Rq w W L v)
    (K : Act → World → Prop) (Q : Exit → Act → World → Prop)
    (y0 y1 y2 y3 y4 y5 y12 y17 y18 y19 y20 y21 y22 y23 y24 y25 y26 y27 y28 y29 y30 y31 y32 y33 y34 y35 y36 y37 y38 y39 y40 y41 y42 y43 y44 y45 y46 y48 y49 y50 y51 y52 y53 y54 y55 y56 y57 y58 y59 y60 y61 y62 y63 y64 y65 y66 y67 y68 y69 y70 y71 y72 y73 y74 y75 y76 y77 y78 y79 y80 y81 y82 y83 y84 y85 y86 y87 y88 y89 y90 y91 y92 y93 y94 y95 y96 y97 y98 y99 y100 y101 y102 y103 y104 y105 y106 y107 y108 y109 y110 y111 y112 y113 y114 y115 y116 y117 y118 y119 y120 y121 y122 y123 y124 y125 y126 y127 y128 y129 y130 y131 y132 y133 y134 y135 y136 y137 y138 y139 y140 y141 y142 y143 y144 y145 y146 y147 y148 y149 y150 y151 y152 y153 y154 y155 y156 y157 y158 y159 y160 y161 y162 y163 y164 y165 y166 y167 y168 y169 y170 y171 y172 y173 y174 y175 y176 y177 y178 y179 y180 y181 y182 y183 y184 y185 y186 y187 y188 y189 y190 y191 y192 y193 y194 y195 y196 y197 y198 y199 y200 y201 y202 y203 y204 y205 y206 y207 y208 y209 y210 y211 y212 y213 y214 y215 y216 y217 y218 y219 y220 y221 y222 y223 y224 y225 y226 y227 y228 y229 y230 y231 y232 : Value)
    (hK : ∀ (v7 v8 v9 v10 v11 v16 v47 v48 v49 v50 v51 v52 v53 v54 v55 v56 v57 v58 v59 v60 v61 v62 v63 v64 v65 v66 v67 v68 v69 v70 v71 v72 v73 v74 v75 v76 v77 v78 v79 v80 v81 v82 v83 v84 v85 v86 v87 v88 v89 v90 v91 v92 v93 v94 v95 v96 v97 v98 v99 v100 v101 v102 v103 v104 v105 v106 v107 v108 v109 v110 v111 v112 v113 v114 v115 v116 v117 v118 v119 v120 v121 v122 v123 v124 v125 v126 v127 v128 v129 v130 v131 v132 v133 v134 v135 v136 v137 v138 v139 v140 v141 v142 v143 v144 v145 v146 v147 v148 v149 v150 v151 v152 v153 v154 v155 v156 v157 v158 v159 v160 v161 v162 v163 v164 v165 v166 v167 v168 v169 v170 v171 v172 v173 v174 v175 v176 v177 v178 v179 v180 v181 v182 v183 v184 v185 v186 v187 v188 v189 v190 v191 v192 v193 v194 v195 v196 v197 v198 v199 v200 v201 v202 v203 v204 v205 v206 v207 v208 v209 v210 v211 v212 v213 v214 v215 v216 v217 v218 v219 v220 v221 v222 v223 v224 v225 v226 v227 : Value) (W' : World), SwR w ⟨11, n, wd, vl, hf, L⟩ c en v7 v8 v9 v10 v11 v16 W' → K { tmps := #[y0, y1, y2, y3, y4, y5, .pointer (some ⟨w.heap.size + 1 + 1, 0, none⟩), v7, v8, v9, v10, v11, y12, .bool en, .int .u8 (c.toNat : Int), .bool ov, v16, y17, y18, y19, y20, y21, y22, y23, y24, y25, y26, y27, y28, y29, y30, y31, y32, y33, y34, y35, y36, y37, y38, y39, y40, y41, y42, y43, y44, y45, y46, v47, v48, v49, v50, v51, v52, v53, v54, v55, v56, v57, v58, v59, v60, v61, v62, v63, v64, v65, v66, v67, v68, v69, v70, v71, v72, v73, v74, v75, v76, v77, v78, v79, v80, v81, v82, v83, v84, v85, v86, v87, v88, v89, v90, v91, v92, v93, v94, v95, v96, v97, v98, v99, v100, v101, v102, v103, v104, v105, v106, v107, v108, v109, v110, v111, v112, v113, v114, v115, v116, v117, v118, v119, v120, v121, v122, v123, v124, v125, v126, v127, v128, v129, v130, v131, v132, v133, v134, v135, v136, v137, v138, v139, v140, v141, v142, v143, v144, v145, v146, v147, v148, v149, v150, v151, v152, v153, v154, v155, v156, v157, v158, v159, v160, v161, v162, v163, v164, v165, v166, v167, v168, v169, v170, v171, v172, v173, v174, v175, v176, v177, v178, v179, v180, v181, v182, v183, v184, v185, v186, v187, v188, v189, v190, v191, v192, v193, v194, v195, v196, v197, v198, v199, v200, v201, v202, v203, v204, v205, v206, v207, v208, v209, v210, v211, v212, v213, v214, v215, v216, v217, v218, v219, v220, v221, v222, v223, v224, v225, v226, v227, y228, y229, y230, y231, y232], defers := [] } W') :
    swC.wp Try.prog (Exit.then K Q) { tmps := #[y0, y1, y2, y3, y4, y5, .pointer (some ⟨w.heap.size + 1 + 1, 0, none⟩), .int .i64 11, .int .i64 (n : Int), .string ⟨wd.toArray⟩, .string ⟨vl.toArray⟩, .int .i64 (hf.toNat : Int), y12, .bool en, .int .u8 (c.toNat : Int), .bool ov, .bool false, y17, y18, y19, y20, y21, y22, y23, y24, y25, y26, y27, y28, y29, y30, y31, y32, y33, y34, y35, y36, y37, y38, y39, y40, y41, y42, y43, y44, y45, y46, .int .i64 11, y48, y49, y50, y51, y52, y53, y54, y55, y56, y57, y58, y59, y60, y61, y62, y63, y64, y65, y66, y67, y68, y69, y70, y71, y72, y73, y74, y75, y76, y77, y78, y79, y80, y81, y82, y83, y84, y85, y86, y87, y88, y89, y90, y91, y92, y93, y94, y95, y96, y97, y98, y99, y100, y101, y102, y103, y104, y105, y106, y107, y108, y109, y110, y111, y112, y113, y114, y115, y116, y117, y118, y119, y120, y121, y122, y123, y124, y125, y126, y127, y128, y129, y130, y131, y132, y133, y134, y135, y136, y137, y138, y139, y140, y141, y142, y143, y144, y145, y146, y147, y148, y149, y150, y151, y152, y153, y154, y155, y156, y157, y158, y159, y160, y161, y162, y163, y164, y165, y166, y167, y168, y169, y170, y171, y172, y173, y174, y175, y176, y177, y178, y179, y180, y181, y182, y183, y184, y185, y186, y187, y188, y189, y190, y191, y192, y193, y194, y195, y196, y197, y198, y199, y200, y201, y202, y203, y204, y205, y206, y207, y208, y209, y210, y211, y212, y213, y214, y215, y216, y217, y218, y219, y220, y221, y222, y223, y224, y225, y226, y227, y228, y229, y230, y231, y232], defers := [] } W := by
  have HK := Aside0.mk hK
  have HQ := Aside0.mk hq
  clear hK hq
  cases ov with
  | true =>
    have HO := Aside0.mk hov
    clear hov
    obtain ⟨A1, n1, cp1, rfl⟩ := row_form HQ.out.ln.row
    have b2 : W.cell? ⟨w.heap.size + 1 + 1, 2, none⟩ = some (.slice A1 n1 cp1) := (blk_cell HQ.out.ln.blk 2).trans rfl
    obtain ⟨i0, hi, hz0, hz1, hz2⟩ := info_parts info34
    have hmx : (4097 : Nat) + 1 ≤ maxLen := by decide
    have HMX := Aside0.mk hmx
    clear hmx
    dsimp only [swC, swOf, Try.f6, Option.getD]
    go_wp2_with (at_builtin; refine wpList_append_own_at _ rfl (.tmp 221) (.tmp 225) 23 rfl w.heap.size 34 i0 (.agg #[(.string ⟨#[]⟩), (.string ⟨#[]⟩)]) 2 32 Try.underlying23 hi hz0 hz1 hz2 rfl (by decide) (.slice A1 n1 cp1) L.opts.length (oc L.opts) rfl (HQ.out.ln.row.alloc _) ⟨W.heap.size, 0, none⟩ 1 1 [.string ⟨wd.toArray⟩, .string ⟨vl.toArray⟩] rfl rfl (cell_two_new _ _ _ _) (by simp [Value.oneCell']) (by have := HMX.out; omega) (by omega) (by have := HQ.out.z.below.size; simp; omega) ?_; intro v1 w1 hown1 hgrow1 hn1 ho1; clear hn1 ho1; obtain ⟨g1, cap1, rfl⟩ := ownsRow_succ hown1; have HG := Aside0.mk hgrow1; have HW := Aside0.mk hown1; have gb := (rq_grown (v1 := .slice (some ⟨g1, 0, none⟩) (L.opts.length + 1) cap1) (rq_alloc HQ.out _) hgrow1).2; have d2 : w1.cell? ⟨w.heap.size + 1 + 1, 2, none⟩ = some (.slice A1 n1 cp1) := (blk_cell gb 2).trans rfl; have e2 : w1.frozen? ⟨w.heap.size + 1 + 1, 2, none⟩ = false := blk_frozen gb 2; clear gb hown1 hgrow1)
    refine HK.out _ _ _ _ _ _ _ _ _ _ _ _ _ _ _ _ _ _ _ _ _ _ _ _ _ _ _ _ _ _ _ _ _ _ _ _ _ _ _ _ _ _ _ _ _ _ _ _ _ _ _ _ _ _ _ _ _ _ _ _ _ _ _ _ _ _ _ _ _ _ _ _ _ _ _ _ _ _ _ _ _ _ _ _ _ _ _ _ _ _ _ _ _ _ _ _ _ _ _ _ _ _ _ _ _ _ _ _ _ _ _ _ _ _ _ _ _ _ _ _ _ _ _ _ _ _ _ _ _ _ _ _ _ _ _ _ _ _ _ _ _ _ _ _ _ _ _ _ _ _ _ _ _ _ _ _ _ _ _ _ _ _ _ _ _ _ _ _ _ _ _ _ _ _ _ _ _ _ _ _ _ _ _ _ _ _ _ _ ?_
    exact SwR.good ⟨0, n, wd, [], hf, { L with opts := L.opts ++ [(wd, vl)] }⟩ (.slice (some ⟨g1, 0, none⟩) (L.opts.length + 1) cap1) (rfl) (rfl) (rfl) (rfl) (rfl) (rq_opt (rq_alloc HQ.out _) wd vl HG.out HW.out) (by have := HO.out; cases en with | true => rfl | false => (have hb : isBl c = true := (by simpa using this.symm); simp [stepc, hb]))
  | false =>
    obtain ⟨rfl, hbl⟩ : en = false ∧ isBl c = false := by
      cases en with
      | true => exact absurd hov (by simp)
      | false => exact ⟨rfl, by simpa using hov.symm⟩
    clear hov hen
    have HBL := Aside0.mk hbl
    clear hbl
    obtain ⟨A1, n1, cp1, rfl⟩ := row_form HQ.out.ln.row
    have b2 : W.cell? ⟨w.heap.size + 1 + 1, 2, none⟩ = some (.slice A1 n1 cp1) := (blk_cell HQ.out.ln.blk 2).trans rfl
    obtain ⟨i0, hi, hz0, hz1, hz2⟩ := info_parts info34
    have hmx : (4097 : Nat) + 1 ≤ maxLen := by decide
    have HMX := Aside0.mk hmx
    clear hmx
    dsimp only [swC, swOf, Try.f6, Option.getD]
    go_wp2_with (at_builtin; refine wpList_append_own_at _ rfl (.tmp 221) (.tmp 225) 23 rfl w.heap.size 34 i0 (.agg #[(.string ⟨#[]⟩), (.string ⟨#[]⟩)]) 2 32 Try.underlying23 hi hz0 hz1 hz2 rfl (by decide) (.slice A1 n1 cp1) L.opts.length (oc L.opts) rfl (HQ.out.ln.row.alloc _) ⟨W.heap.size, 0, none⟩ 1 1 [.string ⟨wd.toArray⟩, .string ⟨vl.toArray⟩] rfl rfl (cell_two_new _ _ _ _) (by simp [Value.oneCell']) (by have := HMX.out; omega) (by omega) (by have := HQ.out.z.below.size; simp; omega) ?_; intro v1 w1 hown1 hgrow1 hn1 ho1; clear hn1 ho1; obtain ⟨g1, cap1, rfl⟩ := ownsRow_succ hown1; have HG := Aside0.mk hgrow1; have HW := Aside0.mk hown1; have gb := (rq_grown (v1 := .slice (some ⟨g1, 0, none⟩) (L.opts.length + 1) cap1) (rq_alloc HQ.out _) hgrow1).2; have d2 : w1.cell? ⟨w.heap.size + 1 + 1, 2, none⟩ = some (.slice A1 n1 cp1) := (blk_cell gb 2).trans rfl; have e2 : w1.frozen? ⟨w.heap.size + 1 + 1, 2, none⟩ = false := blk_frozen gb 2; clear gb hown1 hgrow1)
    refine HK.out _ _ _ _ _ _ _ _ _ _ _ _ _ _ _ _ _ _ _ _ _ _ _ _ _ _ _ _ _ _ _ _ _ _ _ _ _ _ _ _ _ _ _ _ _ _ _ _ _ _ _ _ _ _ _ _ _ _ _ _ _ _ _ _ _ _ _ _ _ _ _ _ _ _ _ _ _ _ _ _ _ _ _ _ _ _ _ _ _ _ _ _ _ _ _ _ _ _ _ _ _ _ _ _ _ _ _ _ _ _ _ _ _ _ _ _ _ _ _ _ _ _ _ _ _ _ _ _ _ _ _ _ _ _ _ _ _ _ _ _ _ _ _ _ _ _ _ _ _ _ _ _ _ _ _ _ _ _ _ _ _ _ _ _ _ _ _ _ _ _ _ _ _ _ _ _ _ _ _ _ _ _ _ _ _ _ _ _ ?_
    exact SwR.bad (rq_opt (rq_alloc HQ.out _) wd vl HG.out HW.out).z (by simp [stepc, HBL.out])

end Go.Proofs.Ytkoldjmhcifpjaa.refs
/-! ## RefS12 -/
namespace Go.Proofs.Ytkoldjmhcifpjaa.refs
open Go Go.RowKit Go.Proofs.Ytkoldjmhcifpjaa.parsep Go.Proofs.Ytkoldjmhcifpjaa.reada Go.Proofs.Ytkoldjmhcifpjaa.readi Go.Proofs.Ytkoldjmhcifpjaa.refa Go.Proofs.Ytkoldjmhcifpjaa.refc Go.Proofs.Ytkoldjmhcifpjaa.PShellReads Go.Proofs.YtkoldjmhcifpjaaW.PrintWords
set_option linter.unusedVariables false
set_option linter.unusedSimpArgs false
set_option maxHeartbeats 2000000 in
set_option maxRecDepth 100000 in
theorem sw12 (w W : World) (n : Nat) (wd vl : Bs) (hf c : UInt8) (L : Ln) (v : Value) (en ov : Bool) (hen : en = true → c = 0) (hov : ov = (en || isBl c)) (hwd : wd.length ≤ 16) (hvl : vl.length ≤ 4097) (hn : n ≤ 4097) (hol : L.opts.length ≤ 4097) (hq : Rq w W L v)
    (K : Act → World → Prop) (Q : Exit → Act → World → Prop)
    (y0 y1 y2 y3 y4 y5 y12 y17 y18 y19 y20 y21 y22 y23 y24 y25 y26 y27 y28 y29 y30 y31 y32 y33 y34 y35 y36 y37 y38 y39 y40 y41 y42 y43 y44 y45 y46 y48 y49 y50 y51 y52 y53 y54 y55 y56 y57 y58 y59 y60 y61 y62 y63 y64 y65 y66 y67 y68 y69 y70 y71 y72 y73 y74 y75 y76 y77 y78 y79 y80 y81 y82 y83 y84 y85 y86 y87 y88 y89 y90 y91 y92 y93 y94 y95 y96 y97 y98 y99 y100 y101 y102 y103 y104 y105 y106 y107 y108 y109 y110 y111 y112 y113 y114 y115 y116 y117 y118 y119 y120 y121 y122 y123 y124 y125 y126 y127 y128 y129 y130 y131 y132 y133 y134 y135 y136 y137 y138 y139 y140 y141 y142 y143 y144 y145 y146 y147 y148 y149 y150 y151 y152 y153 y154 y155 y156 y157 y158 y159 y160 y161 y162 y163 y164 y165 y166 y167 y168 y169 y170 y171 y172 y173 y174 y175 y176 y177 y178 y179 y180 y181 y182 y183 y184 y185 y186 y187 y188 y189 y190 y191 y192 y193 y194 y195 y196 y197 y198 y199 y200 y201 y202 y203 y204 y205 y206 y207 y208 y209 y210 y211 y212 y213 y214 y215 y216 y217 y218 y219 y220 y221 y222 y223 y224 y225 y226 y227 y228 y229 y230 y231 y232 : Value)
    (hK : ∀ (v7 v8 v9 v10 v11 v16 v47 v48 v49 v50 v51 v52 v53 v54 v55 v56 v57 v58 v59 v60 v61 v62 v63 v64 v65 v66 v67 v68 v69 v70 v71 v72 v73 v74 v75 v76 v77 v78 v79 v80 v81 v82 v83 v84 v85 v86 v87 v88 v89 v90 v91 v92 v93 v94 v95 v96 v97 v98 v99 v100 v101 v102 v103 v104 v105 v106 v107 v108 v109 v110 v111 v112 v113 v114 v115 v116 v117 v118 v119 v120 v121 v122 v123 v124 v125 v126 v127 v128 v129 v130 v131 v132 v133 v134 v135 v136 v137 v138 v139 v140 v141 v142 v143 v144 v145 v146 v147 v148 v149 v150 v151 v152 v153 v154 v155 v156 v157 v158 v159 v160 v161 v162 v163 v164 v165 v166 v167 v168 v169 v170 v171 v172 v173 v174 v175 v176 v177 v178 v179 v180 v181 v182 v183 v184 v185 v186 v187 v188 v189 v190 v191 v192 v193 v194 v195 v196 v197 v198 v199 v200 v201 v202 v203 v204 v205 v206 v207 v208 v209 v210 v211 v212 v213 v214 v215 v216 v217 v218 v219 v220 v221 v222 v223 v224 v225 v226 v227 : Value) (W' : World), SwR w ⟨12, n, wd, vl, hf, L⟩ c en v7 v8 v9 v10 v11 v16 W' → K { tmps := #[y0, y1, y2, y3, y4, y5, .pointer (some ⟨w.heap.size + 1 + 1, 0, none⟩), v7, v8, v9, v10, v11, y12, .bool en, .int .u8 (c.toNat : Int), .bool ov, v16, y17, y18, y19, y20, y21, y22, y23, y24, y25, y26, y27, y28, y29, y30, y31, y32, y33, y34, y35, y36, y37, y38, y39, y40, y41, y42, y43, y44, y45, y46, v47, v48, v49, v50, v51, v52, v53, v54, v55, v56, v57, v58, v59, v60, v61, v62, v63, v64, v65, v66, v67, v68, v69, v70, v71, v72, v73, v74, v75, v76, v77, v78, v79, v80, v81, v82, v83, v84, v85, v86, v87, v88, v89, v90, v91, v92, v93, v94, v95, v96, v97, v98, v99, v100, v101, v102, v103, v104, v105, v106, v107, v108, v109, v110, v111, v112, v113, v114, v115, v116, v117, v118, v119, v120, v121, v122, v123, v124, v125, v126, v127, v128, v129, v130, v131, v132, v133, v134, v135, v136, v137, v138, v139, v140, v141, v142, v143, v144, v145, v146, v147, v148, v149, v150, v151, v152, v153, v154, v155, v156, v157, v158, v159, v160, v161, v162, v163, v164, v165, v166, v167, v168, v169, v170, v171, v172, v173, v174, v175, v176, v177, v178, v179, v180, v181, v182, v183, v184, v185, v186, v187, v188, v189, v190, v191, v192, v193, v194, v195, v196, v197, v198, v199, v200, v201, v202, v203, v204, v205, v206, v207, v208, v209, v210, v211, v212, v213, v214, v215, v216, v217, v218, v219, v220, v221, v222, v223, v224, v225, v226, v227, y228, y229, y230, y231, y232], defers := [] } W') :
    swC.wp Try.prog (Exit.then K Q) { tmps := #[y0, y1, y2, y3, y4, y5, .pointer (some ⟨w.heap.size + 1 + 1, 0, none⟩), .int .i64 12, .int .i64 (n : Int), .string ⟨wd.toArray⟩, .string ⟨vl.toArray⟩, .int .i64 (hf.toNat : Int), y12, .bool en, .int .u8 (c.toNat : Int), .bool ov, .bool false, y17, y18, y19, y20, y21, y22, y23, y24, y25, y26, y27, y28, y29, y30, y31, y32, y33, y34, y35, y36, y37, y38, y39, y40, y41, y42, y43, y44, y45, y46, .int .i64 12, y48, y49, y50, y51, y52, y53, y54, y55, y56, y57, y58, y59, y60, y61, y62, y63, y64, y65, y66, y67, y68, y69, y70, y71, y72, y73, y74, y75, y76, y77, y78, y79, y80, y81, y82, y83, y84, y85, y86, y87, y88, y89, y90, y91, y92, y93, y94, y95, y96, y97, y98, y99, y100, y101, y102, y103, y104, y105, y106, y107, y108, y109, y110, y111, y112, y113, y114, y115, y116, y117, y118, y119, y120, y121, y122, y123, y124, y125, y126, y127, y128, y129, y130, y131, y132, y133, y134, y135, y136, y137, y138, y139, y140, y141, y142, y143, y144, y145, y146, y147, y148, y149, y150, y151, y152, y153, y154, y155, y156, y157, y158, y159, y160, y161, y162, y163, y164, y165, y166, y167, y168, y169, y170, y171, y172, y173, y174, y175, y176, y177, y178, y179, y180, y181, y182, y183, y184, y185, y186, y187, y188, y189, y190, y191, y192, y193, y194, y195, y196, y197, y198, y199, y200, y201, y202, y203, y204, y205, y206, y207, y208, y209, y210, y211, y212, y213, y214, y215, y216, y217, y218, y219, y220, y221, y222, y223, y224, y225, y226, y227, y228, y229, y230, y231, y232], defers := [] } W := by
  have HK := Aside0.mk hK
  have HQ := Aside0.mk hq
  clear hK hq
  clear hov hen
  dsimp only [swC, swOf, Try.f6, Option.getD]
  go_wp2_with fail
  refine HK.out _ _ _ _ _ _ _ _ _ _ _ _ _ _ _ _ _ _ _ _ _ _ _ _ _ _ _ _ _ _ _ _ _ _ _ _ _ _ _ _ _ _ _ _ _ _ _ _ _ _ _ _ _ _ _ _ _ _ _ _ _ _ _ _ _ _ _ _ _ _ _ _ _ _ _ _ _ _ _ _ _ _ _ _ _ _ _ _ _ _ _ _ _ _ _ _ _ _ _ _ _ _ _ _ _ _ _ _ _ _ _ _ _ _ _ _ _ _ _ _ _ _ _ _ _ _ _ _ _ _ _ _ _ _ _ _ _ _ _ _ _ _ _ _ _ _ _ _ _ _ _ _ _ _ _ _ _ _ _ _ _ _ _ _ _ _ _ _ _ _ _ _ _ _ _ _ _ _ _ _ _ _ _ _ _ _ _ _ ?_
  exact SwR.good ⟨12, n, wd, vl, hf, L⟩ v (rfl) (rfl) (rfl) (rfl) (rfl) (by repeat (first | exact HQ.out | refine rq_alloc ?_ _ | refine rq_drewN ?_ _)) (by cases en <;> simp [stepc, stepe])

end Go.Proofs.Ytkoldjmhcifpjaa.refs
