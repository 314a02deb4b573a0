/- The reference's reader of a line: the switch in whatever state. The reference's reader of a line: the whole (under way). (Merged by merge.py.) -/
import Derived.Test.YtkoldjmhcifpjaaMS
import Derived.Test.YtkoldjmhcifpjaaMU
import Derived.Deep.DeepCutAuto
import Derived.Deep.LoopGhost
/-! ## RefT -/
namespace Go.Proofs.Ytkoldjmhcifpjaa.reft
open Go Go.RowKit Go.Proofs.Ytkoldjmhcifpjaa.parsep Go.Proofs.Ytkoldjmhcifpjaa.reada Go.Proofs.Ytkoldjmhcifpjaa.readi Go.Proofs.Ytkoldjmhcifpjaa.refa Go.Proofs.Ytkoldjmhcifpjaa.refc Go.Proofs.Ytkoldjmhcifpjaa.refs Go.Proofs.Ytkoldjmhcifpjaa.PShellReads Go.Proofs.YtkoldjmhcifpjaaW.PrintWords
set_option linter.unusedVariables false
set_option maxHeartbeats 2000000 in
set_option maxRecDepth 100000 in
theorem sw_any (w W : World) (k n : Nat) (wd vl : Bs) (hf c : UInt8) (L : Ln) (v : Value) (en ov : Bool) (hst : k ≤ 12) (hen : en = true → c = 0) (hov : ov = (en || isBl c)) (hwd : wd.length ≤ 16) (hvl : vl.length ≤ 4097) (hn : n ≤ 4097) (hol : L.opts.length ≤ 4097) (hq : Rq w W L v)
    (K : Act → World → Prop) (Q : Exit → Act → World → Prop)
    (y0 y1 y2 y3 y4 y5 y12 y17 y18 y19 y20 y21 y22 y23 y24 y25 y26 y27 y28 y29 y30 y31 y32 y33 y34 y35 y36 y37 y38 y39 y40 y41 y42 y43 y44 y45 y46 y48 y49 y50 y51 y52 y53 y54 y55 y56 y57 y58 y59 y60 y61 y62 y63 y64 y65 y66 y67 y68 y69 y70 y71 y72 y73 y74 y75 y76 y77 y78 y79 y80 y81 y82 y83 y84 y85 y86 y87 y88 y89 y90 y91 y92 y93 y94 y95 y96 y97 y98 y99 y100 y101 y102 y103 y104 y105 y106 y107 y108 y109 y110 y111 y112 y113 y114 y115 y116 y117 y118 y119 y120 y121 y122 y123 y124 y125 y126 y127 y128 y129 y130 y131 y132 y133 y134 y135 y136 y137 y138 y139 y140 y141 y142 y143 y144 y145 y146 y147 y148 y149 y150 y151 y152 y153 y154 y155 y156 y157 y158 y159 y160 y161 y162 y163 y164 y165 y166 y167 y168 y169 y170 y171 y172 y173 y174 y175 y176 y177 y178 y179 y180 y181 y182 y183 y184 y185 y186 y187 y188 y189 y190 y191 y192 y193 y194 y195 y196 y197 y198 y199 y200 y201 y202 y203 y204 y205 y206 y207 y208 y209 y210 y211 y212 y213 y214 y215 y216 y217 y218 y219 y220 y221 y222 y223 y224 y225 y226 y227 y228 y229 y230 y231 y232 : Value)
    (hK : ∀ (v7 v8 v9 v10 v11 v16 v47 v48 v49 v50 v51 v52 v53 v54 v55 v56 v57 v58 v59 v60 v61 v62 v63 v64 v65 v66 v67 v68 v69 v70 v71 v72 v73 v74 v75 v76 v77 v78 v79 v80 v81 v82 v83 v84 v85 v86 v87 v88 v89 v90 v91 v92 v93 v94 v95 v96 v97 v98 v99 v100 v101 v102 v103 v104 v105 v106 v107 v108 v109 v110 v111 v112 v113 v114 v115 v116 v117 v118 v119 v120 v121 v122 v123 v124 v125 v126 v127 v128 v129 v130 v131 v132 v133 v134 v135 v136 v137 v138 v139 v140 v141 v142 v143 v144 v145 v146 v147 v148 v149 v150 v151 v152 v153 v154 v155 v156 v157 v158 v159 v160 v161 v162 v163 v164 v165 v166 v167 v168 v169 v170 v171 v172 v173 v174 v175 v176 v177 v178 v179 v180 v181 v182 v183 v184 v185 v186 v187 v188 v189 v190 v191 v192 v193 v194 v195 v196 v197 v198 v199 v200 v201 v202 v203 v204 v205 v206 v207 v208 v209 v210 v211 v212 v213 v214 v215 v216 v217 v218 v219 v220 v221 v222 v223 v224 v225 v226 v227 : Value) (W' : World), SwR w ⟨k, n, wd, vl, hf, L⟩ c en v7 v8 v9 v10 v11 v16 W' → K { tmps := #[y0, y1, y2, y3, y4, y5, .pointer (some ⟨w.heap.size + 1 + 1, 0, none⟩), v7, v8, v9, v10, v11, y12, .bool en, .int .u8 (c.toNat : Int), .bool ov, v16, y17, y18, y19, y20, y21, y22, y23, y24, y25, y26, y27, y28, y29, y30, y31, y32, y33, y34, y35, y36, y37, y38, y39, y40, y41, y42, y43, y44, y45, y46, v47, v48, v49, v50, v51, v52, v53, v54, v55, v56, v57, v58, v59, v60, v61, v62, v63, v64, v65, v66, v67, v68, v69, v70, v71, v72, v73, v74, v75, v76, v77, v78, v79, v80, v81, v82, v83, v84, v85, v86, v87, v88, v89, v90, v91, v92, v93, v94, v95, v96, v97, v98, v99, v100, v101, v102, v103, v104, v105, v106, v107, v108, v109, v110, v111, v112, v113, v114, v115, v116, v117, v118, v119, v120, v121, v122, v123, v124, v125, v126, v127, v128, v129, v130, v131, v132, v133, v134, v135, v136, v137, v138, v139, v140, v141, v142, v143, v144, v145, v146, v147, v148, v149, v150, v151, v152, v153, v154, v155, v156, v157, v158, v159, v160, v161, v162, v163, v164, v165, v166, v167, v168, v169, v170, v171, v172, v173, v174, v175, v176, v177, v178, v179, v180, v181, v182, v183, v184, v185, v186, v187, v188, v189, v190, v191, v192, v193, v194, v195, v196, v197, v198, v199, v200, v201, v202, v203, v204, v205, v206, v207, v208, v209, v210, v211, v212, v213, v214, v215, v216, v217, v218, v219, v220, v221, v222, v223, v224, v225, v226, v227, y228, y229, y230, y231, y232], defers := [] } W') :
    swC.wp Try.prog (Exit.then K Q) { tmps := #[y0, y1, y2, y3, y4, y5, .pointer (some ⟨w.heap.size + 1 + 1, 0, none⟩), .int .i64 (k : Int), .int .i64 (n : Int), .string ⟨wd.toArray⟩, .string ⟨vl.toArray⟩, .int .i64 (hf.toNat : Int), y12, .bool en, .int .u8 (c.toNat : Int), .bool ov, .bool false, y17, y18, y19, y20, y21, y22, y23, y24, y25, y26, y27, y28, y29, y30, y31, y32, y33, y34, y35, y36, y37, y38, y39, y40, y41, y42, y43, y44, y45, y46, .int .i64 (k : Int), y48, y49, y50, y51, y52, y53, y54, y55, y56, y57, y58, y59, y60, y61, y62, y63, y64, y65, y66, y67, y68, y69, y70, y71, y72, y73, y74, y75, y76, y77, y78, y79, y80, y81, y82, y83, y84, y85, y86, y87, y88, y89, y90, y91, y92, y93, y94, y95, y96, y97, y98, y99, y100, y101, y102, y103, y104, y105, y106, y107, y108, y109, y110, y111, y112, y113, y114, y115, y116, y117, y118, y119, y120, y121, y122, y123, y124, y125, y126, y127, y128, y129, y130, y131, y132, y133, y134, y135, y136, y137, y138, y139, y140, y141, y142, y143, y144, y145, y146, y147, y148, y149, y150, y151, y152, y153, y154, y155, y156, y157, y158, y159, y160, y161, y162, y163, y164, y165, y166, y167, y168, y169, y170, y171, y172, y173, y174, y175, y176, y177, y178, y179, y180, y181, y182, y183, y184, y185, y186, y187, y188, y189, y190, y191, y192, y193, y194, y195, y196, y197, y198, y199, y200, y201, y202, y203, y204, y205, y206, y207, y208, y209, y210, y211, y212, y213, y214, y215, y216, y217, y218, y219, y220, y221, y222, y223, y224, y225, y226, y227, y228, y229, y230, y231, y232], defers := [] } W := by
  rcases Nat.lt_or_ge k 13 with h | h
  · match k, h with
    | 0, _ => exact sw0 w W n wd vl hf c L v en ov hen hov hwd hvl hn hol hq K Q y0 y1 y2 y3 y4 y5 y12 y17 y18 y19 y20 y21 y22 y23 y24 y25 y26 y27 y28 y29 y30 y31 y32 y33 y34 y35 y36 y37 y38 y39 y40 y41 y42 y43 y44 y45 y46 y48 y49 y50 y51 y52 y53 y54 y55 y56 y57 y58 y59 y60 y61 y62 y63 y64 y65 y66 y67 y68 y69 y70 y71 y72 y73 y74 y75 y76 y77 y78 y79 y80 y81 y82 y83 y84 y85 y86 y87 y88 y89 y90 y91 y92 y93 y94 y95 y96 y97 y98 y99 y100 y101 y102 y103 y104 y105 y106 y107 y108 y109 y110 y111 y112 y113 y114 y115 y116 y117 y118 y119 y120 y121 y122 y123 y124 y125 y126 y127 y128 y129 y130 y131 y132 y133 y134 y135 y136 y137 y138 y139 y140 y141 y142 y143 y144 y145 y146 y147 y148 y149 y150 y151 y152 y153 y154 y155 y156 y157 y158 y159 y160 y161 y162 y163 y164 y165 y166 y167 y168 y169 y170 y171 y172 y173 y174 y175 y176 y177 y178 y179 y180 y181 y182 y183 y184 y185 y186 y187 y188 y189 y190 y191 y192 y193 y194 y195 y196 y197 y198 y199 y200 y201 y202 y203 y204 y205 y206 y207 y208 y209 y210 y211 y212 y213 y214 y215 y216 y217 y218 y219 y220 y221 y222 y223 y224 y225 y226 y227 y228 y229 y230 y231 y232 hK
    | 1, _ => exact sw1 w W n wd vl hf c L v en ov hen hov hwd hvl hn hol hq K Q y0 y1 y2 y3 y4 y5 y12 y17 y18 y19 y20 y21 y22 y23 y24 y25 y26 y27 y28 y29 y30 y31 y32 y33 y34 y35 y36 y37 y38 y39 y40 y41 y42 y43 y44 y45 y46 y48 y49 y50 y51 y52 y53 y54 y55 y56 y57 y58 y59 y60 y61 y62 y63 y64 y65 y66 y67 y68 y69 y70 y71 y72 y73 y74 y75 y76 y77 y78 y79 y80 y81 y82 y83 y84 y85 y86 y87 y88 y89 y90 y91 y92 y93 y94 y95 y96 y97 y98 y99 y100 y101 y102 y103 y104 y105 y106 y107 y108 y109 y110 y111 y112 y113 y114 y115 y116 y117 y118 y119 y120 y121 y122 y123 y124 y125 y126 y127 y128 y129 y130 y131 y132 y133 y134 y135 y136 y137 y138 y139 y140 y141 y142 y143 y144 y145 y146 y147 y148 y149 y150 y151 y152 y153 y154 y155 y156 y157 y158 y159 y160 y161 y162 y163 y164 y165 y166 y167 y168 y169 y170 y171 y172 y173 y174 y175 y176 y177 y178 y179 y180 y181 y182 y183 y184 y185 y186 y187 y188 y189 y190 y191 y192 y193 y194 y195 y196 y197 y198 y199 y200 y201 y202 y203 y204 y205 y206 y207 y208 y209 y210 y211 y212 y213 y214 y215 y216 y217 y218 y219 y220 y221 y222 y223 y224 y225 y226 y227 y228 y229 y230 y231 y232 hK
    | 2, _ => exact sw2 w W n wd vl hf c L v en ov hen hov hwd hvl hn hol hq K Q y0 y1 y2 y3 y4 y5 y12 y17 y18 y19 y20 y21 y22 y23 y24 y25 y26 y27 y28 y29 y30 y31 y32 y33 y34 y35 y36 y37 y38 y39 y40 y41 y42 y43 y44 y45 y46 y48 y49 y50 y51 y52 y53 y54 y55 y56 y57 y58 y59 y60 y61 y62 y63 y64 y65 y66 y67 y68 y69 y70 y71 y72 y73 y74 y75 y76 y77 y78 y79 y80 y81 y82 y83 y84 y85 y86 y87 y88 y89 y90 y91 y92 y93 y94 y95 y96 y97 y98 y99 y100 y101 y102 y103 y104 y105 y106 y107 y108 y109 y110 y111 y112 y113 y114 y115 y116 y117 y118 y119 y120 y121 y122 y123 y124 y125 y126 y127 y128 y129 y130 y131 y132 y133 y134 y135 y136 y137 y138 y139 y140 y141 y142 y143 y144 y145 y146 y147 y148 y149 y150 y151 y152 y153 y154 y155 y156 y157 y158 y159 y160 y161 y162 y163 y164 y165 y166 y167 y168 y169 y170 y171 y172 y173 y174 y175 y176 y177 y178 y179 y180 y181 y182 y183 y184 y185 y186 y187 y188 y189 y190 y191 y192 y193 y194 y195 y196 y197 y198 y199 y200 y201 y202 y203 y204 y205 y206 y207 y208 y209 y210 y211 y212 y213 y214 y215 y216 y217 y218 y219 y220 y221 y222 y223 y224 y225 y226 y227 y228 y229 y230 y231 y232 hK
    | 3, _ => exact sw3 w W n wd vl hf c L v en ov hen hov hwd hvl hn hol hq K Q y0 y1 y2 y3 y4 y5 y12 y17 y18 y19 y20 y21 y22 y23 y24 y25 y26 y27 y28 y29 y30 y31 y32 y33 y34 y35 y36 y37 y38 y39 y40 y41 y42 y43 y44 y45 y46 y48 y49 y50 y51 y52 y53 y54 y55 y56 y57 y58 y59 y60 y61 y62 y63 y64 y65 y66 y67 y68 y69 y70 y71 y72 y73 y74 y75 y76 y77 y78 y79 y80 y81 y82 y83 y84 y85 y86 y87 y88 y89 y90 y91 y92 y93 y94 y95 y96 y97 y98 y99 y100 y101 y102 y103 y104 y105 y106 y107 y108 y109 y110 y111 y112 y113 y114 y115 y116 y117 y118 y119 y120 y121 y122 y123 y124 y125 y126 y127 y128 y129 y130 y131 y132 y133 y134 y135 y136 y137 y138 y139 y140 y141 y142 y143 y144 y145 y146 y147 y148 y149 y150 y151 y152 y153 y154 y155 y156 y157 y158 y159 y160 y161 y162 y163 y164 y165 y166 y167 y168 y169 y170 y171 y172 y173 y174 y175 y176 y177 y178 y179 y180 y181 y182 y183 y184 y185 y186 y187 y188 y189 y190 y191 y192 y193 y194 y195 y196 y197 y198 y199 y200 y201 y202 y203 y204 y205 y206 y207 y208 y209 y210 y211 y212 y213 y214 y215 y216 y217 y218 y219 y220 y221 y222 y223 y224 y225 y226 y227 y228 y229 y230 y231 y232 hK
    | 4, _ => exact sw4 w W n wd vl hf c L v en ov hen hov hwd hvl hn hol hq K Q y0 y1 y2 y3 y4 y5 y12 y17 y18 y19 y20 y21 y22 y23 y24 y25 y26 y27 y28 y29 y30 y31 y32 y33 y34 y35 y36 y37 y38 y39 y40 y41 y42 y43 y44 y45 y46 y48 y49 y50 y51 y52 y53 y54 y55 y56 y57 y58 y59 y60 y61 y62 y63 y64 y65 y66 y67 y68 y69 y70 y71 y72 y73 y74 y75 y76 y77 y78 y79 y80 y81 y82 y83 y84 y85 y86 y87 y88 y89 y90 y91 y92 y93 y94 y95 y96 y97 y98 y99 y100 y101 y102 y103 y104 y105 y106 y107 y108 y109 y110 y111 y112 y113 y114 y115 y116 y117 y118 y119 y120 y121 y122 y123 y124 y125 y126 y127 y128 y129 y130 y131 y132 y133 y134 y135 y136 y137 y138 y139 y140 y141 y142 y143 y144 y145 y146 y147 y148 y149 y150 y151 y152 y153 y154 y155 y156 y157 y158 y159 y160 y161 y162 y163 y164 y165 y166 y167 y168 y169 y170 y171 y172 y173 y174 y175 y176 y177 y178 y179 y180 y181 y182 y183 y184 y185 y186 y187 y188 y189 y190 y191 y192 y193 y194 y195 y196 y197 y198 y199 y200 y201 y202 y203 y204 y205 y206 y207 y208 y209 y210 y211 y212 y213 y214 y215 y216 y217 y218 y219 y220 y221 y222 y223 y224 y225 y226 y227 y228 y229 y230 y231 y232 hK
    | 5, _ => exact sw5 w W n wd vl hf c L v en ov hen hov hwd hvl hn hol hq K Q y0 y1 y2 y3 y4 y5 y12 y17 y18 y19 y20 y21 y22 y23 y24 y25 y26 y27 y28 y29 y30 y31 y32 y33 y34 y35 y36 y37 y38 y39 y40 y41 y42 y43 y44 y45 y46 y48 y49 y50 y51 y52 y53 y54 y55 y56 y57 y58 y59 y60 y61 y62 y63 y64 y65 y66 y67 y68 y69 y70 y71 y72 y73 y74 y75 y76 y77 y78 y79 y80 y81 y82 y83 y84 y85 y86 y87 y88 y89 y90 y91 y92 y93 y94 y95 y96 y97 y98 y99 y100 y101 y102 y103 y104 y105 y106 y107 y108 y109 y110 y111 y112 y113 y114 y115 y116 y117 y118 y119 y120 y121 y122 y123 y124 y125 y126 y127 y128 y129 y130 y131 y132 y133 y134 y135 y136 y137 y138 y139 y140 y141 y142 y143 y144 y145 y146 y147 y148 y149 y150 y151 y152 y153 y154 y155 y156 y157 y158 y159 y160 y161 y162 y163 y164 y165 y166 y167 y168 y169 y170 y171 y172 y173 y174 y175 y176 y177 y178 y179 y180 y181 y182 y183 y184 y185 y186 y187 y188 y189 y190 y191 y192 y193 y194 y195 y196 y197 y198 y199 y200 y201 y202 y203 y204 y205 y206 y207 y208 y209 y210 y211 y212 y213 y214 y215 y216 y217 y218 y219 y220 y221 y222 y223 y224 y225 y226 y227 y228 y229 y230 y231 y232 hK
    | 6, _ => exact sw6 w W n wd vl hf c L v en ov hen hov hwd hvl hn hol hq K Q y0 y1 y2 y3 y4 y5 y12 y17 y18 y19 y20 y21 y22 y23 y24 y25 y26 y27 y28 y29 y30 y31 y32 y33 y34 y35 y36 y37 y38 y39 y40 y41 y42 y43 y44 y45 y46 y48 y49 y50 y51 y52 y53 y54 y55 y56 y57 y58 y59 y60 y61 y62 y63 y64 y65 y66 y67 y68 y69 y70 y71 y72 y73 y74 y75 y76 y77 y78 y79 y80 y81 y82 y83 y84 y85 y86 y87 y88 y89 y90 y91 y92 y93 y94 y95 y96 y97 y98 y99 y100 y101 y102 y103 y104 y105 y106 y107 y108 y109 y110 y111 y112 y113 y114 y115 y116 y117 y118 y119 y120 y121 y122 y123 y124 y125 y126 y127 y128 y129 y130 y131 y132 y133 y134 y135 y136 y137 y138 y139 y140 y141 y142 y143 y144 y145 y146 y147 y148 y149 y150 y151 y152 y153 y154 y155 y156 y157 y158 y159 y160 y161 y162 y163 y164 y165 y166 y167 y168 y169 y170 y171 y172 y173 y174 y175 y176 y177 y178 y179 y180 y181 y182 y183 y184 y185 y186 y187 y188 y189 y190 y191 y192 y193 y194 y195 y196 y197 y198 y199 y200 y201 y202 y203 y204 y205 y206 y207 y208 y209 y210 y211 y212 y213 y214 y215 y216 y217 y218 y219 y220 y221 y222 y223 y224 y225 y226 y227 y228 y229 y230 y231 y232 hK
    | 7, _ => exact sw7 w W n wd vl hf c L v en ov hen hov hwd hvl hn hol hq K Q y0 y1 y2 y3 y4 y5 y12 y17 y18 y19 y20 y21 y22 y23 y24 y25 y26 y27 y28 y29 y30 y31 y32 y33 y34 y35 y36 y37 y38 y39 y40 y41 y42 y43 y44 y45 y46 y48 y49 y50 y51 y52 y53 y54 y55 y56 y57 y58 y59 y60 y61 y62 y63 y64 y65 y66 y67 y68 y69 y70 y71 y72 y73 y74 y75 y76 y77 y78 y79 y80 y81 y82 y83 y84 y85 y86 y87 y88 y89 y90 y91 y92 y93 y94 y95 y96 y97 y98 y99 y100 y101 y102 y103 y104 y105 y106 y107 y108 y109 y110 y111 y112 y113 y114 y115 y116 y117 y118 y119 y120 y121 y122 y123 y124 y125 y126 y127 y128 y129 y130 y131 y132 y133 y134 y135 y136 y137 y138 y139 y140 y141 y142 y143 y144 y145 y146 y147 y148 y149 y150 y151 y152 y153 y154 y155 y156 y157 y158 y159 y160 y161 y162 y163 y164 y165 y166 y167 y168 y169 y170 y171 y172 y173 y174 y175 y176 y177 y178 y179 y180 y181 y182 y183 y184 y185 y186 y187 y188 y189 y190 y191 y192 y193 y194 y195 y196 y197 y198 y199 y200 y201 y202 y203 y204 y205 y206 y207 y208 y209 y210 y211 y212 y213 y214 y215 y216 y217 y218 y219 y220 y221 y222 y223 y224 y225 y226 y227 y228 y229 y230 y231 y232 hK
    | 8, _ => exact sw8 w W n wd vl hf c L v en ov hen hov hwd hvl hn hol hq K Q y0 y1 y2 y3 y4 y5 y12 y17 y18 y19 y20 y21 y22 y23 y24 y25 y26 y27 y28 y29 y30 y31 y32 y33 y34 y35 y36 y37 y38 y39 y40 y41 y42 y43 y44 y45 y46 y48 y49 y50 y51 y52 y53 y54 y55 y56 y57 y58 y59 y60 y61 y62 y63 y64 y65 y66 y67 y68 y69 y70 y71 y72 y73 y74 y75 y76 y77 y78 y79 y80 y81 y82 y83 y84 y85 y86 y87 y88 y89 y90 y91 y92 y93 y94 y95 y96 y97 y98 y99 y100 y101 y102 y103 y104 y105 y106 y107 y108 y109 y110 y111 y112 y113 y114 y115 y116 y117 y118 y119 y120 y121 y122 y123 y124 y125 y126 y127 y128 y129 y130 y131 y132 y133 y134 y135 y136 y137 y138 y139 y140 y141 y142 y143 y144 y145 y146 y147 y148 y149 y150 y151 y152 y153 y154 y155 y156 y157 y158 y159 y160 y161 y162 y163 y164 y165 y166 y167 y168 y169 y170 y171 y172 y173 y174 y175 y176 y177 y178 y179 y180 y181 y182 y183 y184 y185 y186 y187 y188 y189 y190 y191 y192 y193 y194 y195 y196 y197 y198 y199 y200 y201 y202 y203 y204 y205 y206 y207 y208 y209 y210 y211 y212 y213 y214 y215 y216 y217 y218 y219 y220 y221 y222 y223 y224 y225 y226 y227 y228 y229 y230 y231 y232 hK
    | 9, _ => exact sw9 w W n wd vl hf c L v en ov hen hov hwd hvl hn hol hq K Q y0 y1 y2 y3 y4 y5 y12 y17 y18 y19 y20 y21 y22 y23 y24 y25 y26 y27 y28 y29 y30 y31 y32 y33 y34 y35 y36 y37 y38 y39 y40 y41 y42 y43 y44 y45 y46 y48 y49 y50 y51 y52 y53 y54 y55 y56 y57 y58 y59 y60 y61 y62 y63 y64 y65 y66 y67 y68 y69 y70 y71 y72 y73 y74 y75 y76 y77 y78 y79 y80 y81 y82 y83 y84 y85 y86 y87 y88 y89 y90 y91 y92 y93 y94 y95 y96 y97 y98 y99 y100 y101 y102 y103 y104 y105 y106 y107 y108 y109 y110 y111 y112 y113 y114 y115 y116 y117 y118 y119 y120 y121 y122 y123 y124 y125 y126 y127 y128 y129 y130 y131 y132 y133 y134 y135 y136 y137 y138 y139 y140 y141 y142 y143 y144 y145 y146 y147 y148 y149 y150 y151 y152 y153 y154 y155 y156 y157 y158 y159 y160 y161 y162 y163 y164 y165 y166 y167 y168 y169 y170 y171 y172 y173 y174 y175 y176 y177 y178 y179 y180 y181 y182 y183 y184 y185 y186 y187 y188 y189 y190 y191 y192 y193 y194 y195 y196 y197 y198 y199 y200 y201 y202 y203 y204 y205 y206 y207 y208 y209 y210 y211 y212 y213 y214 y215 y216 y217 y218 y219 y220 y221 y222 y223 y224 y225 y226 y227 y228 y229 y230 y231 y232 hK
    | 10, _ => exact sw10 w W n wd vl hf c L v en ov hen hov hwd hvl hn hol hq K Q y0 y1 y2 y3 y4 y5 y12 y17 y18 y19 y20 y21 y22 y23 y24 y25 y26 y27 y28 y29 y30 y31 y32 y33 y34 y35 y36 y37 y38 y39 y40 y41 y42 y43 y44 y45 y46 y48 y49 y50 y51 y52 y53 y54 y55 y56 y57 y58 y59 y60 y61 y62 y63 y64 y65 y66 y67 y68 y69 y70 y71 y72 y73 y74 y75 y76 y77 y78 y79 y80 y81 y82 y83 y84 y85 y86 y87 y88 y89 y90 y91 y92 y93 y94 y95 y96 y97 y98 y99 y100 y101 y102 y103 y104 y105 y106 y107 y108 y109 y110 y111 y112 y113 y114 y115 y116 y117 y118 y119 y120 y121 y122 y123 y124 y125 y126 y127 y128 y129 y130 y131 y132 y133 y134 y135 y136 y137 y138 y139 y140 y141 y142 y143 y144 y145 y146 y147 y148 y149 y150 y151 y152 y153 y154 y155 y156 y157 y158 y159 y160 y161 y162 y163 y164 y165 y166 y167 y168 y169 y170 y171 y172 y173 y174 y175 y176 y177 y178 y179 y180 y181 y182 y183 y184 y185 y186 y187 y188 y189 y190 y191 y192 y193 y194 y195 y196 y197 y198 y199 y200 y201 y202 y203 y204 y205 y206 y207 y208 y209 y210 y211 y212 y213 y214 y215 y216 y217 y218 y219 y220 y221 y222 y223 y224 y225 y226 y227 y228 y229 y230 y231 y232 hK
    | 11, _ => exact sw11 w W n wd vl hf c L v en ov hen hov hwd hvl hn hol hq K Q y0 y1 y2 y3 y4 y5 y12 y17 y18 y19 y20 y21 y22 y23 y24 y25 y26 y27 y28 y29 y30 y31 y32 y33 y34 y35 y36 y37 y38 y39 y40 y41 y42 y43 y44 y45 y46 y48 y49 y50 y51 y52 y53 y54 y55 y56 y57 y58 y59 y60 y61 y62 y63 y64 y65 y66 y67 y68 y69 y70 y71 y72 y73 y74 y75 y76 y77 y78 y79 y80 y81 y82 y83 y84 y85 y86 y87 y88 y89 y90 y91 y92 y93 y94 y95 y96 y97 y98 y99 y100 y101 y102 y103 y104 y105 y106 y107 y108 y109 y110 y111 y112 y113 y114 y115 y116 y117 y118 y119 y120 y121 y122 y123 y124 y125 y126 y127 y128 y129 y130 y131 y132 y133 y134 y135 y136 y137 y138 y139 y140 y141 y142 y143 y144 y145 y146 y147 y148 y149 y150 y151 y152 y153 y154 y155 y156 y157 y158 y159 y160 y161 y162 y163 y164 y165 y166 y167 y168 y169 y170 y171 y172 y173 y174 y175 y176 y177 y178 y179 y180 y181 y182 y183 y184 y185 y186 y187 y188 y189 y190 y191 y192 y193 y194 y195 y196 y197 y198 y199 y200 y201 y202 y203 y204 y205 y206 y207 y208 y209 y210 y211 y212 y213 y214 y215 y216 y217 y218 y219 y220 y221 y222 y223 y224 y225 y226 y227 y228 y229 y230 y231 y232 hK
    | 12, _ => exact sw12 w W n wd vl hf c L v en ov hen hov hwd hvl hn hol hq K Q y0 y1 y2 y3 y4 y5 y12 y17 y18 y19 y20 y21 y22 y23 y24 y25 y26 y27 y28 y29 y30 y31 y32 y33 y34 y35 y36 y37 y38 y39 y40 y41 y42 y43 y44 y45 y46 y48 y49 y50 y51 y52 y53 y54 y55 y56 y57 y58 y59 y60 y61 y62 y63 y64 y65 y66 y67 y68 y69 y70 y71 y72 y73 y74 y75 y76 y77 y78 y79 y80 y81 y82 y83 y84 y85 y86 y87 y88 y89 y90 y91 y92 y93 y94 y95 y96 y97 y98 y99 y100 y101 y102 y103 y104 y105 y106 y107 y108 y109 y110 y111 y112 y113 y114 y115 y116 y117 y118 y119 y120 y121 y122 y123 y124 y125 y126 y127 y128 y129 y130 y131 y132 y133 y134 y135 y136 y137 y138 y139 y140 y141 y142 y143 y144 y145 y146 y147 y148 y149 y150 y151 y152 y153 y154 y155 y156 y157 y158 y159 y160 y161 y162 y163 y164 y165 y166 y167 y168 y169 y170 y171 y172 y173 y174 y175 y176 y177 y178 y179 y180 y181 y182 y183 y184 y185 y186 y187 y188 y189 y190 y191 y192 y193 y194 y195 y196 y197 y198 y199 y200 y201 y202 y203 y204 y205 y206 y207 y208 y209 y210 y211 y212 y213 y214 y215 y216 y217 y218 y219 y220 y221 y222 y223 y224 y225 y226 y227 y228 y229 y230 y231 y232 hK
  · omega
end Go.Proofs.Ytkoldjmhcifpjaa.reft
/-! ## RefB -/
namespace Go.Proofs.Ytkoldjmhcifpjaa.refb
open Go Go.RowKit Go.Proofs.Ytkoldjmhcifpjaa.parsep Go.Proofs.Ytkoldjmhcifpjaa.reada Go.Proofs.Ytkoldjmhcifpjaa.readi Go.Proofs.Ytkoldjmhcifpjaa.refa Go.Proofs.Ytkoldjmhcifpjaa.refc Go.Proofs.Ytkoldjmhcifpjaa.reft Go.Proofs.Ytkoldjmhcifpjaa.PShellReads Go.Proofs.YtkoldjmhcifpjaaW.PrintWords
set_option linter.unusedVariables false
set_option linter.unusedSimpArgs false
/-- What the reference hands back. -/
def EndsQ (w0 : World) (s : ByteArray) (e : Ending) (w' : World) : Prop :=
  Below w0.heap.size w0 w' ∧ if 4096 < s.size then e = .returned (.tuple #[.agg #[.string ⟨#[]⟩, .string ⟨#[]⟩, .slice none 0 0], .int .i64 160, .int .i64 4097]) else
    match run ⟨0, 0, [], [], 0, ⟨[], [], []⟩⟩ s.data.toList 0 with
    | .error q => e = .returned (.tuple #[.agg #[.string ⟨#[]⟩, .string ⟨#[]⟩, .slice none 0 0], .int .i64 160, .int .i64 ((q + 1 : Nat) : Int)])
    | .ok L => ∃ v, e = .returned (.tuple #[.agg #[.string ⟨L.cmd.toArray⟩, .string ⟨L.name.toArray⟩, v], .int .i64 0, .int .i64 0]) ∧ w'.ownsRow w0.heap.size 34 2 v L.opts.length (oc L.opts)
set_option maxHeartbeats 2000000 in
set_option maxRecDepth 100000 in
theorem ref_long (s : ByteArray) (w : World) (hs : 4096 < s.size) : Calls Try.prog 6 #[.string s] w (EndsQ w s) := by
  have hi : (4096 : Int) < (s.size : Int) := by omega
  go_enter Try.func6, Try.ntmps6
  go_wp2_with fail
  have hz : Below w.heap.size w ((w.alloc (.cells #[.string ⟨#[]⟩, .string ⟨#[]⟩, .slice none 0 0] 25)).alloc (.cells #[.string ⟨#[]⟩, .string ⟨#[]⟩, .slice none 0 0] 25)) := ((Below.refl _ w).alloc (Nat.le_refl _) _).alloc (by simp) _
  refine ⟨rfl, _, results_list (rs := [.cell 2 25, .tmp 3, .tmp 4]) rfl ?_ (.cell w.heap.size 25 _ (0, 0) _ rfl (blk_alloc (blk_new _ _) _) Try.underlying25 rfl (by kernel_rfl) (.tmp (.tmp .nil))), hz, ?_⟩
  · simp
  rw [if_pos hs]
  rfl
theorem run_fine {x : Sv} {c : UInt8} {t : Bs} {i : Nat} (h : fine c = true) : run x (c :: t) i = match stepc x c with | none => .error i | some s' => run s' t (i + 1) := by
  rw [run, if_pos h]
  rfl
theorem bt_at {s : ByteArray} {a : Nat} {c : UInt8} {t : Bs} (h : s.data.toList.drop a = c :: t) (hs : a < s.size) : s[a] = c := by
  have hl : a < s.data.toList.length := by simpa using hs
  have := List.drop_eq_getElem_cons hl
  rw [h] at this
  injection this with h1 _
  have e2 : s[a] = s.data.toList[a] := by simp [ByteArray.getElem_eq_getElem_data]
  rw [e2, ← h1]
theorem stepc_bd {x x' : Sv} {c : UInt8} (h : stepc x c = some x') : x'.fields ≤ x.fields + 1 ∧ (x.word.length ≤ 16 → x'.word.length ≤ 16) ∧ x'.val.length ≤ x.val.length + 1 ∧ x'.ln.opts.length ≤ x.ln.opts.length + 1 ∧ (x.st ≤ 12 → x'.st ≤ 12) := by
  unfold stepc at h
  dsimp only at h
  split at h
  all_goals (repeat' split at h)
  all_goals (first | (simp only [reduceCtorEq] at h; done) | skip)
  all_goals (simp only [Option.some.injEq] at h; subst h; simp_all; try omega)
set_option maxHeartbeats 2000000 in
set_option maxRecDepth 100000 in
theorem ref_short (s : ByteArray) (w : World) (hs : ¬ 4096 < s.size) : Calls Try.prog 6 #[.string s] w (EndsQ w s) := by
  have hi : ¬ (4096 : Int) < (s.size : Int) := by omega
  obtain ⟨X, hX⟩ : ∃ X, X = run ⟨0, 0, [], [], 0, ⟨[], [], []⟩⟩ s.data.toList 0 := ⟨_, rfl⟩
  have HX := Aside0.mk hX
  clear hX
  go_enter Try.func6, Try.ntmps6
  go_wp2_with fail
  go_loopg [7, 8, 9, 10, 11, 12] (s.size + 2) (fun kq v7 v8 v9 v10 v11 v12 wr => ∃ (x : Sv) (r : Bs) (i : Nat) (v : Value), Aside0 (v7 = .int .i64 (x.st : Int)) ∧ Aside0 (v8 = .int .i64 (x.fields : Int)) ∧ Aside0 (v9 = .string ⟨x.word.toArray⟩) ∧ Aside0 (v10 = .string ⟨x.val.toArray⟩) ∧ Aside0 (v11 = .int .i64 (x.half.toNat : Int)) ∧ Aside0 (v12 = .int .i64 (i : Int)) ∧ Aside0 ((X = run x r i ∧ s.data.toList.drop i = r ∧ i + r.length = s.size ∧ kq = r.length + 2 ∧ x.fields ≤ i ∧ x.word.length ≤ 16 ∧ x.val.length ≤ i ∧ x.ln.opts.length ≤ i ∧ x.st ≤ 12) ∨ (X = .ok x.ln ∧ i = s.size + 1 ∧ kq = 1)) ∧ Aside0 (Rq w wr x.ln v))
  case atStart =>
    refine ⟨⟨0, 0, [], [], 0, ⟨[], [], []⟩⟩, s.data.toList, 0, .slice none 0 0, ⟨rfl⟩, ⟨rfl⟩, ⟨rfl⟩, ⟨rfl⟩, ⟨rfl⟩, ⟨rfl⟩, ⟨.inl ⟨HX.out, rfl, by simp, by simp, by simp, by simp, by simp, by simp, by simp⟩⟩, ⟨?_⟩⟩
    have h2 := blk_new (w.alloc (.cells #[.string ⟨#[]⟩, .string ⟨#[]⟩, .slice none 0 0] 25)) (.cells #[.string ⟨#[]⟩, .string ⟨#[]⟩, .slice none 0 0] 25)
    have h3 := blk_new ((w.alloc (.cells #[.string ⟨#[]⟩, .string ⟨#[]⟩, .slice none 0 0] 25)).alloc (.cells #[.string ⟨#[]⟩, .string ⟨#[]⟩, .slice none 0 0] 25)) (.cells #[.string ⟨#[]⟩, .string ⟨#[]⟩, .slice none 0 0] 25)
    rw [World.size_alloc] at h2
    rw [World.size_alloc, World.size_alloc] at h3
    exact ⟨⟨(((Below.refl _ w).alloc (Nat.le_refl _) _).alloc (by simp) _).alloc (by simp; omega) _, blk_alloc (blk_alloc (blk_new _ _) _) _, blk_alloc h2 _⟩, h3, World.ownsRow_nil _ _ _ _⟩
  case round =>
    obtain ⟨x, r, i, v, H7, H8, H9, H10, H11, H12, HXr, HR⟩ := hrel
    obtain rfl := H7.out
    obtain rfl := H8.out
    obtain rfl := H9.out
    obtain rfl := H10.out
    obtain rfl := H11.out
    obtain rfl := H12.out
    rcases HXr.out with ⟨hx, hd, hl, hk, HB⟩ | ⟨hx, rfl, hk⟩
    · have HB := Aside0.mk HB
      have HD := Aside0.mk hd
      have hcl := HR.out.z.below
      clear hd hcl
      cases r with
      | nil =>
        have hi0 : i = s.size := by simpa using hl
        subst hi0
        have HX1 := Aside0.mk hx
        have HK1 := Aside0.mk hk
        clear hl hx hk
        obtain ⟨hbf, hbw, hbv, hbo, hbs⟩ := HB.out
        go_upto_block 2 with (fail)
        refine sw_any w _ x.st x.fields x.word x.val x.half 0 x.ln v true true hbs (fun _ => rfl) rfl hbw (by omega) (by omega) (by omega) HR.out _ _ _ _ _ _ _ _ _ _ _ _ _ _ _ _ _ _ _ _ _ _ _ _ _ _ _ _ _ _ _ _ _ _ _ _ _ _ _ _ _ _ _ _ _ _ _ _ _ _ _ _ _ _ _ _ _ _ _ _ _ _ _ _ _ _ _ _ _ _ _ _ _ _ _ _ _ _ _ _ _ _ _ _ _ _ _ _ _ _ _ _ _ _ _ _ _ _ _ _ _ _ _ _ _ _ _ _ _ _ _ _ _ _ _ _ _ _ _ _ _ _ _ _ _ _ _ _ _ _ _ _ _ _ _ _ _ _ _ _ _ _ _ _ _ _ _ _ _ _ _ _ _ _ _ _ _ _ _ _ _ _ _ _ _ _ _ _ _ _ _ _ _ _ _ _ _ _ _ _ _ _ _ _ _ _ _ _ _ _ _ _ _ _ _ _ _ _ _ _ _ _ _ _ _ _ _ _ _ _ _ _ _ _ _ _ _ _ _ _ _ _ _ _ ?_
        intro v7 v8 v9 v10 v11 v16 v47 v48 v49 v50 v51 v52 v53 v54 v55 v56 v57 v58 v59 v60 v61 v62 v63 v64 v65 v66 v67 v68 v69 v70 v71 v72 v73 v74 v75 v76 v77 v78 v79 v80 v81 v82 v83 v84 v85 v86 v87 v88 v89 v90 v91 v92 v93 v94 v95 v96 v97 v98 v99 v100 v101 v102 v103 v104 v105 v106 v107 v108 v109 v110 v111 v112 v113 v114 v115 v116 v117 v118 v119 v120 v121 v122 v123 v124 v125 v126 v127 v128 v129 v130 v131 v132 v133 v134 v135 v136 v137 v138 v139 v140 v141 v142 v143 v144 v145 v146 v147 v148 v149 v150 v151 v152 v153 v154 v155 v156 v157 v158 v159 v160 v161 v162 v163 v164 v165 v166 v167 v168 v169 v170 v171 v172 v173 v174 v175 v176 v177 v178 v179 v180 v181 v182 v183 v184 v185 v186 v187 v188 v189 v190 v191 v192 v193 v194 v195 v196 v197 v198 v199 v200 v201 v202 v203 v204 v205 v206 v207 v208 v209 v210 v211 v212 v213 v214 v215 v216 v217 v218 v219 v220 v221 v222 v223 v224 v225 v226 v227 W9 hR
        obtain ⟨bad, rfl, hz, hb, hg⟩ := hR
        cases bad with
        | true =>
          have HE : Aside0 (X = .error s.size) := ⟨by rw [HX1.out]; unfold run; rw [show stepe x = none from hb rfl]⟩
          clear hb hg HX1
          have d0 : W9.cell? ⟨w.heap.size + 1, 0, none⟩ = some (.string ⟨#[]⟩) := (blk_cell hz.z1 0).trans rfl
          have d1 : W9.cell? ⟨w.heap.size + 1, 1, none⟩ = some (.string ⟨#[]⟩) := (blk_cell hz.z1 1).trans rfl
          have d2 : W9.cell? ⟨w.heap.size + 1, 2, none⟩ = some (.slice none 0 0) := (blk_cell hz.z1 2).trans rfl
          have g0 : W9.cell? ⟨w.heap.size, 0, none⟩ = some (.string ⟨#[]⟩) := (blk_cell hz.z0 0).trans rfl
          have g1 : W9.cell? ⟨w.heap.size, 1, none⟩ = some (.string ⟨#[]⟩) := (blk_cell hz.z0 1).trans rfl
          have g2 : W9.cell? ⟨w.heap.size, 2, none⟩ = some (.slice none 0 0) := (blk_cell hz.z0 2).trans rfl
          have f0 := blk_frozen hz.z0 0
          have f1 := blk_frozen hz.z0 1
          have f2 := blk_frozen hz.z0 2
          go_wp2_with fail
          have p0 := blk_put (blk_put (blk_put hz.z0 0 (.string ⟨#[]⟩) rfl) 1 (.string ⟨#[]⟩) rfl) 2 (.slice none 0 0) rfl
          have hb9 := ((hz.below.setCell (p := ⟨w.heap.size, 0, none⟩) (by simp) (.string ⟨#[]⟩)).setCell (p := ⟨w.heap.size, 1, none⟩) (by simp) (.string ⟨#[]⟩)).setCell (p := ⟨w.heap.size, 2, none⟩) (by simp) (.slice none 0 0)
          refine ⟨rfl, _, results_list (rs := [.cell 2 25, .tmp 3, .tmp 4]) rfl ?_ (.cell w.heap.size 25 _ (0, 0) _ rfl p0 Try.underlying25 rfl (by kernel_rfl) (.tmp (.tmp .nil))), hb9, ?_⟩
          · simp
          rw [if_neg hs, ← HX.out, HE.out]
          rfl
        | false =>
          obtain ⟨x', v', hst, rfl, rfl, rfl, rfl, rfl, hq⟩ := hg rfl
          have hst' : stepe x = some x'.ln := hst
          have HE : Aside0 (X = .ok x'.ln) := ⟨by rw [HX1.out]; unfold run; rw [hst']⟩
          clear hb hg HX1 hst hst' hz
          have HQ := Aside0.mk hq
          clear hq
          go_wp2_with fail
          go_roundg 1
          case rel => exact ⟨x', [], s.size + 1, v', ⟨rfl⟩, ⟨rfl⟩, ⟨rfl⟩, ⟨rfl⟩, ⟨rfl⟩, ⟨by go_num⟩, ⟨.inr ⟨HE.out, rfl, rfl⟩⟩, HQ⟩
          case measure => have := HK1.out; omega
      | cons c t =>
        have hlt : i < s.size := by simp at hl; omega
        have hl2 : i + 1 + t.length = s.size := by simp at hl; omega
        have hc : c = s[i] := (bt_at HD.out hlt).symm
        have hd2 : s.data.toList.drop (i + 1) = t := by rw [← List.drop_drop, HD.out]; rfl
        have hk2 : gk = t.length + 3 := by rw [hk]; simp
        subst hc
        have HD2 := Aside0.mk hd2
        have HL2 := Aside0.mk hl2
        have HX1 := Aside0.mk hx
        have HK1 := Aside0.mk hk2
        clear hl hl2 hx hk hk2 hd2 HD
        obtain ⟨hbf, hbw, hbv, hbo, hbs⟩ := HB.out
        have hle : i ≤ s.size := by omega
        have hne : ((i : Int) == (s.size : Int)) = false := beq_eq_false_iff_ne.mpr (by omega)
        have hne2 : ¬ i = s.size := by omega
        by_cases hfi : fine s[i] = true
        · have HE0 : Aside0 (X = match stepc x s[i] with | none => .error i | some s' => run s' t (i + 1)) := ⟨by rw [HX1.out, run_fine hfi]⟩
          clear HX1
          go_upto_region 19 with (first | (go_at_call 12; refine (fineQ s[i] _).mono ?_; rintro e w' ⟨rfl, m, rfl⟩) | fail)
          go_upto_region 20 with (first | (go_at_call 13; refine (rblankQ s[i] _).mono ?_; rintro e w' ⟨rfl, m2, rfl⟩) | fail)
          go_upto_block 2 with (fail)
          refine sw_any w _ x.st x.fields x.word x.val x.half s[i] x.ln v false (isBl s[i]) hbs (fun h => (Bool.false_ne_true h).elim) rfl hbw (by omega) (by omega) (by omega) (by repeat (first | exact HR.out | refine rq_drewN ?_ _)) _ _ _ _ _ _ _ _ _ _ _ _ _ _ _ _ _ _ _ _ _ _ _ _ _ _ _ _ _ _ _ _ _ _ _ _ _ _ _ _ _ _ _ _ _ _ _ _ _ _ _ _ _ _ _ _ _ _ _ _ _ _ _ _ _ _ _ _ _ _ _ _ _ _ _ _ _ _ _ _ _ _ _ _ _ _ _ _ _ _ _ _ _ _ _ _ _ _ _ _ _ _ _ _ _ _ _ _ _ _ _ _ _ _ _ _ _ _ _ _ _ _ _ _ _ _ _ _ _ _ _ _ _ _ _ _ _ _ _ _ _ _ _ _ _ _ _ _ _ _ _ _ _ _ _ _ _ _ _ _ _ _ _ _ _ _ _ _ _ _ _ _ _ _ _ _ _ _ _ _ _ _ _ _ _ _ _ _ _ _ _ _ _ _ _ _ _ _ _ _ _ _ _ _ _ _ _ _ _ _ _ _ _ _ _ _ _ _ _ _ _ _ _ _ ?_
          intro v7 v8 v9 v10 v11 v16 v47 v48 v49 v50 v51 v52 v53 v54 v55 v56 v57 v58 v59 v60 v61 v62 v63 v64 v65 v66 v67 v68 v69 v70 v71 v72 v73 v74 v75 v76 v77 v78 v79 v80 v81 v82 v83 v84 v85 v86 v87 v88 v89 v90 v91 v92 v93 v94 v95 v96 v97 v98 v99 v100 v101 v102 v103 v104 v105 v106 v107 v108 v109 v110 v111 v112 v113 v114 v115 v116 v117 v118 v119 v120 v121 v122 v123 v124 v125 v126 v127 v128 v129 v130 v131 v132 v133 v134 v135 v136 v137 v138 v139 v140 v141 v142 v143 v144 v145 v146 v147 v148 v149 v150 v151 v152 v153 v154 v155 v156 v157 v158 v159 v160 v161 v162 v163 v164 v165 v166 v167 v168 v169 v170 v171 v172 v173 v174 v175 v176 v177 v178 v179 v180 v181 v182 v183 v184 v185 v186 v187 v188 v189 v190 v191 v192 v193 v194 v195 v196 v197 v198 v199 v200 v201 v202 v203 v204 v205 v206 v207 v208 v209 v210 v211 v212 v213 v214 v215 v216 v217 v218 v219 v220 v221 v222 v223 v224 v225 v226 v227 W9 hR
          obtain ⟨bad, rfl, hz, hb, hg⟩ := hR
          cases bad with
          | true =>
            have HE : Aside0 (X = .error i) := ⟨by rw [HE0.out, show stepc x s[i] = none from hb rfl]⟩
            clear hb hg HE0
            have d0 : W9.cell? ⟨w.heap.size + 1, 0, none⟩ = some (.string ⟨#[]⟩) := (blk_cell hz.z1 0).trans rfl
            have d1 : W9.cell? ⟨w.heap.size + 1, 1, none⟩ = some (.string ⟨#[]⟩) := (blk_cell hz.z1 1).trans rfl
            have d2 : W9.cell? ⟨w.heap.size + 1, 2, none⟩ = some (.slice none 0 0) := (blk_cell hz.z1 2).trans rfl
            have g0 : W9.cell? ⟨w.heap.size, 0, none⟩ = some (.string ⟨#[]⟩) := (blk_cell hz.z0 0).trans rfl
            have g1 : W9.cell? ⟨w.heap.size, 1, none⟩ = some (.string ⟨#[]⟩) := (blk_cell hz.z0 1).trans rfl
            have g2 : W9.cell? ⟨w.heap.size, 2, none⟩ = some (.slice none 0 0) := (blk_cell hz.z0 2).trans rfl
            have f0 := blk_frozen hz.z0 0
            have f1 := blk_frozen hz.z0 1
            have f2 := blk_frozen hz.z0 2
            go_wp2_with fail
            have p0 := blk_put (blk_put (blk_put hz.z0 0 (.string ⟨#[]⟩) rfl) 1 (.string ⟨#[]⟩) rfl) 2 (.slice none 0 0) rfl
            have hb9 := ((hz.below.setCell (p := ⟨w.heap.size, 0, none⟩) (by simp) (.string ⟨#[]⟩)).setCell (p := ⟨w.heap.size, 1, none⟩) (by simp) (.string ⟨#[]⟩)).setCell (p := ⟨w.heap.size, 2, none⟩) (by simp) (.slice none 0 0)
            refine ⟨rfl, _, results_list (rs := [.cell 2 25, .tmp 3, .tmp 4]) rfl ?_ (.cell w.heap.size 25 _ (0, 0) _ rfl p0 Try.underlying25 rfl (by kernel_rfl) (.tmp (.tmp .nil))), hb9, ?_⟩
            · simp
            rw [if_neg hs, ← HX.out, HE.out]
            rfl
          | false =>
            obtain ⟨x', v', hst, rfl, rfl, rfl, rfl, rfl, hq⟩ := hg rfl
            have hst' : stepc x s[i] = some x' := hst
            obtain ⟨b1, b2, b3, b4, b5⟩ := stepc_bd hst'
            have HE : Aside0 (X = run x' t (i + 1)) := ⟨by rw [HE0.out, hst']⟩
            have HB2 : Aside0 (x'.fields ≤ i + 1 ∧ x'.word.length ≤ 16 ∧ x'.val.length ≤ i + 1 ∧ x'.ln.opts.length ≤ i + 1 ∧ x'.st ≤ 12) := ⟨by omega, b2 hbw, by omega, by omega, b5 hbs⟩
            clear hb hg HE0 hst hst' hz b1 b2 b3 b4 b5
            have HQ := Aside0.mk hq
            clear hq
            go_wp2_with fail
            go_roundg (t.length + 2)
            case rel => exact ⟨x', t, i + 1, v', ⟨rfl⟩, ⟨rfl⟩, ⟨rfl⟩, ⟨rfl⟩, ⟨rfl⟩, ⟨by go_num⟩, ⟨.inl ⟨HE.out, HD2.out, HL2.out, rfl, HB2.out⟩⟩, HQ⟩
            case measure => have := HK1.out; omega
        · have HE : Aside0 (X = .error i) := ⟨by rw [HX1.out]; conv => lhs; unfold run; rw [if_neg hfi]⟩
          have hfi2 : fine s[i] = false := by simpa using hfi
          have hz := HR.out.z
          clear HX1 hfi
          have d0 : wr.cell? ⟨w.heap.size + 1, 0, none⟩ = some (.string ⟨#[]⟩) := (blk_cell hz.z1 0).trans rfl
          have d1 : wr.cell? ⟨w.heap.size + 1, 1, none⟩ = some (.string ⟨#[]⟩) := (blk_cell hz.z1 1).trans rfl
          have d2 : wr.cell? ⟨w.heap.size + 1, 2, none⟩ = some (.slice none 0 0) := (blk_cell hz.z1 2).trans rfl
          have g0 : wr.cell? ⟨w.heap.size, 0, none⟩ = some (.string ⟨#[]⟩) := (blk_cell hz.z0 0).trans rfl
          have g1 : wr.cell? ⟨w.heap.size, 1, none⟩ = some (.string ⟨#[]⟩) := (blk_cell hz.z0 1).trans rfl
          have g2 : wr.cell? ⟨w.heap.size, 2, none⟩ = some (.slice none 0 0) := (blk_cell hz.z0 2).trans rfl
          have f0 := blk_frozen hz.z0 0
          have f1 := blk_frozen hz.z0 1
          have f2 := blk_frozen hz.z0 2
          go_wp2_with (first | (go_at_call 12; refine (fineQ s[i] _).mono ?_; rintro e w' ⟨rfl, m, rfl⟩) | fail)
          have hz := rz_drewN hz m
          have p0 := blk_put (blk_put (blk_put hz.z0 0 (.string ⟨#[]⟩) rfl) 1 (.string ⟨#[]⟩) rfl) 2 (.slice none 0 0) rfl
          have hb9 := ((hz.below.setCell (p := ⟨w.heap.size, 0, none⟩) (by simp) (.string ⟨#[]⟩)).setCell (p := ⟨w.heap.size, 1, none⟩) (by simp) (.string ⟨#[]⟩)).setCell (p := ⟨w.heap.size, 2, none⟩) (by simp) (.slice none 0 0)
          refine ⟨rfl, _, results_list (rs := [.cell 2 25, .tmp 3, .tmp 4]) rfl ?_ (.cell w.heap.size 25 _ (0, 0) _ rfl p0 Try.underlying25 rfl (by kernel_rfl) (.tmp (.tmp .nil))), hb9, ?_⟩
          · simp
          rw [if_neg hs, ← HX.out, HE.out]
          rfl
    · have HE := Aside0.mk hx
      clear hx
      have hleq : ¬ ((s.size + 1 : Nat) : Int) ≤ (s.size : Int) := by omega
      have c0 : wr.cell? ⟨w.heap.size + 1 + 1, 0, none⟩ = some (.string ⟨x.ln.cmd.toArray⟩) := (blk_cell HR.out.ln.blk 0).trans rfl
      have c1 : wr.cell? ⟨w.heap.size + 1 + 1, 1, none⟩ = some (.string ⟨x.ln.name.toArray⟩) := (blk_cell HR.out.ln.blk 1).trans rfl
      have c2 : wr.cell? ⟨w.heap.size + 1 + 1, 2, none⟩ = some v := (blk_cell HR.out.ln.blk 2).trans rfl
      obtain ⟨A1, n1, cp1, rfl⟩ : ∃ A1 n1 cp1, v = .slice A1 n1 cp1 := by
        rcases HR.out.ln.row.2 with ⟨rfl, _⟩ | ⟨g1, cap, cur, rfl, _⟩
        · exact ⟨_, _, _, rfl⟩
        · exact ⟨_, _, _, rfl⟩
      have d0 : wr.cell? ⟨w.heap.size, 0, none⟩ = some (.string ⟨#[]⟩) := (blk_cell HR.out.z.z0 0).trans rfl
      have d1 : wr.cell? ⟨w.heap.size, 1, none⟩ = some (.string ⟨#[]⟩) := (blk_cell HR.out.z.z0 1).trans rfl
      have d2 : wr.cell? ⟨w.heap.size, 2, none⟩ = some (.slice none 0 0) := (blk_cell HR.out.z.z0 2).trans rfl
      have f0 := blk_frozen HR.out.z.z0 0
      have f1 := blk_frozen HR.out.z.z0 1
      have f2 := blk_frozen HR.out.z.z0 2
      go_wp2_with fail
      have hk9 : KeepBut wr (((wr.setCell ⟨w.heap.size, 0, none⟩ (.string ⟨x.ln.cmd.toArray⟩)).setCell ⟨w.heap.size, 1, none⟩ (.string ⟨x.ln.name.toArray⟩)).setCell ⟨w.heap.size, 2, none⟩ (.slice A1 n1 cp1)) w.heap.size none := KeepBut.set_ (KeepBut.set_ (KeepBut.set_ (KeepBut.refl _ _ _) _ _) _ _) _ _
      have p0 := blk_put (blk_put (blk_put HR.out.z.z0 0 (.string ⟨x.ln.cmd.toArray⟩) rfl) 1 (.string ⟨x.ln.name.toArray⟩) rfl) 2 (.slice A1 n1 cp1) rfl
      have hb9 := ((HR.out.z.below.setCell (p := ⟨w.heap.size, 0, none⟩) (by simp) (.string ⟨x.ln.cmd.toArray⟩)).setCell (p := ⟨w.heap.size, 1, none⟩) (by simp) (.string ⟨x.ln.name.toArray⟩)).setCell (p := ⟨w.heap.size, 2, none⟩) (by simp) (.slice A1 n1 cp1)
      have hr9 := hk9.own HR.out.ln.row (row_other HR.out.ln.row HR.out.z.z0 (by simp)) (by cases (Value.slice A1 n1 cp1).ownBlock <;> simp)
      refine ⟨rfl, _, results_list (rs := [.cell 2 25, .tmp 3, .tmp 4]) rfl ?_ (.cell w.heap.size 25 _ (0, 0) _ rfl p0 Try.underlying25 rfl (by kernel_rfl) (.tmp (.tmp .nil))), hb9, ?_⟩
      · simp
      rw [if_neg hs, ← HX.out, HE.out]
      exact ⟨_, rfl, hr9⟩
end Go.Proofs.Ytkoldjmhcifpjaa.refb
