/- RULES OF THE WALK, as conjunctions, and the walk itself. Conditions: none. -/
import Derived.Test.YthjlppdnlahhoaaGreatKU
set_option linter.unusedSimpArgs false
set_option linter.unusedVariables false
namespace Go.Proofs.YthjlppdnlahhoaaGreat
open Go.Ev Go Tryz
set_option maxRecDepth 100000
set_option linter.defProp false
def WB:=(aN (aN (aN (aN (aN (aN (aN (aN (aN (aN @SQ @ZD) @SO) (aN @cw_seq @OE)) (aN (aN @TU @aaI) (aN @TL @FL))) (aN (aN (aN (aN @Kq @R9) @Bm) (aN @H4 @Fw)) (aN (aN @Lu @DH) (aN @It @Ml)))) (aN (aN (aN (aN (aN @Mh @T0) @J8) (aN @TJ @Rk)) (aN (aN @IC @IA) (aN @D6 @Nd))) (aN (aN (aN (aN @KY @Tk) @Ms) (aN @Ok @ab2)) (aN (aN @opsW_n @TR) (aN @MO @UH))))) (aN (aN (aN (aN (aN (aN @Wm @Sc) @WA) (aN @N6 @Hr)) (aN (aN @Q4 @Wv) (aN @Vz @Wu))) (aN (aN (aN (aN @Tw @WK) @Vq) (aN @S7 @Vd)) (aN (aN @T3 @SL) (aN @Uv @WG)))) (aN (aN (aN (aN (aN @WE @VZ) @Q9) (aN @N7 @MJ)) (aN (aN @KJ @Ua) (aN @P6 @Ll))) (aN (aN (aN @Lo @OF) (aN @Nj @EC)) (aN (aN @Ie @U8) (aN @SN @Fg)))))) (aN (aN (aN (aN (aN (aN (aN @SB @Wc) @Nr) (aN @Mt @Rv)) (aN (aN @Pf @aab) (aN @abz @Ov))) (aN (aN (aN (aN @EY @KG) @Bt) (aN @Ds @Jj)) (aN (aN @Hm @Kw) (aN @Qr @NV)))) (aN (aN (aN (aN (aN @N3 @Kz) @Qz) (aN @MH @Je)) (aN (aN @U_ @TZ) (aN @Oc @aaq))) (aN (aN (aN @Uh @VK) (aN @Ur @ta_ne)) (aN (aN @abQ @MC) (aN @UT @S8))))) (aN (aN (aN (aN (aN (aN @Ib @Lm) @Oi) (aN @callE (gA 3))) (aN (aN (Es 63 14) (uh 25 15)) (aN (gN 26) (gI 26 4)))) (aN (aN (aN (aN (uh 29 4) (xV 63 [uv 0,nS,nS,nS,nS,nS,nS,nS,nS,nS,nS,nS,nS,iv 0])) (gS 63 14)) (aN (xV 46 [iv 0,uv 0,iv 0,iv 0,iv 0,uv 0,iv 0,iv 0,uv 0,uv 0,uv 0,uv 0,uv 0,iv 0,uv 0,nS]) (gS 46 16))) (aN (aN (gF 29 0 0) (gL 27)) (aN (gF 29 1 1) (gL 3))))) (aN (aN (aN (aN (aN (gF 25 0 0) (gF 63 2 13)) (gF 46 0 0)) (aN (gF 46 9 15) (gL 44))) (aN (aN (gN 44) (uh 46 16)) (aN (yk 46 [iv 0,uv 0,iv 0,iv 0,iv 0,uv 0,iv 0,iv 0,uv 0,uv 0,uv 0,uv 0,uv 0,iv 0,uv 0,nS] [(0,1),(1,1),(2,1),(3,1),(4,2),(6,1),(7,6),(13,1),(14,1),(15,1)]) (uh 63 14)))) (aN (aN (aN (Es 38 2) (gF 25 2 2)) (aN (gF 25 3 3) (gF 25 4 4))) (aN (aN (yk 98 [iv 0,iv 0,iv 0,iv 0,iv 0,iv 0,iv 0,iv 0,iv 0,iv 0,uv 0,uv 0,uv 0,uv 0,nS,uv 0,iv 0,nS,nS,nS,nS,nS,nS,nS,iv 0,nS,nS,nS,nS,uv 0] [(0,15),(15,1),(16,1),(17,2),(19,2),(21,2),(23,1),(24,1),(25,1),(26,1),(27,1),(28,1),(29,1)]) (gF 98 5 21)) (aN (gF 25 10 10) (gL 22)))))))) (aN (aN (aN (aN (aN (aN (aN (aN (gF 25 11 11) (yk 94 [iv 0,uv 0,iv 0,uv 0,uv 0,iv 0,uv 0] [(0,2),(2,1),(3,1),(4,1),(5,1),(6,1)])) (xV 38 [iv 0,uv 0])) (aN (gS 38 2) (gF 98 4 19))) (aN (aN (gF 25 12 12) (gF 25 13 13)) (aN (yk 103 [uv 0,uv 0] [(0,1),(1,1)]) (gB 86 1 103 2 [uv 0,uv 0])))) (aN (aN (aN (aN (yk 88 [uv 0,uv 0,nS,iv 0] [(0,1),(1,1),(2,1),(3,1)]) (gF 98 3 17)) (uh 38 2)) (aN (yk 81 [iv 0,.bool false,iv 0,uv 0,iv 0,uv 0,.int .u8 0,iv 0,iv 0,uv 0,uv 0,uv 0,uv 0,uv 0,uv 0,uv 0,uv 0,iv 0,uv 0] [(0,1),(1,1),(2,2),(4,2),(6,1),(7,1),(8,1),(9,8),(17,1),(18,1)]) (gF 38 0 0))) (aN (aN (gB 53 1 3 1 [iv 0]) (gF 98 9 26)) (aN (gS 53 1) (yk 109 [iv 0,iv 0,uv 0,.int .u8 0] [(0,1),(1,2),(3,1)]))))) (aN (aN (aN (aN (aN (gB 110 3 109 4 [iv 0,iv 0,uv 0,.int .u8 0]) (gN 110)) (gI 110 4)) (aN (uh 109 4) (xV 109 [iv 0,iv 0,uv 0,.int .u8 0]))) (aN (aN (gS 109 4) (gF 109 2 3)) (aN (gS 107 1) (Es 46 16)))) (aN (aN (aN (aN (gA 22) (gF 98 1 15)) (gF 46 2 2)) (aN (gS 36 1) (gF 98 8 25))) (aN (aN (gL 95) (gN 95)) (aN (gI 95 5) (gF 113 2 2)))))) (aN (aN (aN (aN (aN (aN (gL 53) (gN 53)) (gF 29 2 2)) (aN (gF 98 2 16) (gS 3 1))) (aN (aN (gF 46 1 1) (gS 22 1)) (aN (uh 113 5) (xV 113 [nS,nS,nS,iv 0,uv 0])))) (aN (aN (aN (aN (gS 113 5) (yk 38 [iv 0,uv 0] [(0,1),(1,1)])) (gI 53 1)) (aN (gB 44 1 38 2 [iv 0,uv 0]) (HX 44 38 2 [iv 0,uv 0]))) (aN (aN (gS 44 1) (yk 63 [uv 0,nS,nS,nS,nS,nS,nS,nS,nS,nS,nS,nS,nS,iv 0] [(0,12),(12,1),(13,1)])) (aN (gL 36) (gF 46 3 3))))) (aN (aN (aN (aN (aN (gF 46 4 4) (fun a0 b0 a1 b1=>gEN 38 (@GW a0 b0 a1 b1))) (gF 46 5 6)) (aN (gL 39) (gF 46 6 7))) (aN (aN (uh 43 6) (gF 46 7 13)) (aN (gL 33) (gF 46 8 14)))) (aN (aN (aN (gI 44 2) (gF 63 0 0)) (aN (uh 60 12) (gF 63 1 12))) (aN (aN (gL 61) (gF 25 14 14)) (aN (gL 23) (gN 23))))))) (aN (aN (aN (aN (aN (aN (aN (gI 23 1) (gL 71)) (gN 71)) (aN (Es 25 15) (xV 25 [iv 0,iv 0,iv 0,iv 0,iv 0,iv 0,iv 0,iv 0,iv 0,iv 0,uv 0,uv 0,uv 0,uv 0,nS]))) (aN (aN (gB 71 0 5 1 [.int .u8 0]) (gS 25 15)) (aN (gA 23) (gS 23 1)))) (aN (aN (aN (aN (gB 23 1 71 1 [nS]) (HX 23 71 1 [nS])) (Es 76 2)) (aN (xV 76 [nS,nS]) (gF 76 0 0))) (aN (aN (gS 74 1) (gL 74)) (aN (gN 74) (gI 74 21))))) (aN (aN (aN (aN (aN (gF 125 0 0) (gF 76 1 1)) (HX 53 3 1 [iv 0])) (aN (uh 76 2) (gS 76 2))) (aN (aN (Es 84 2) (xV 84 [nS,nS])) (aN (gF 84 0 0) (gS 82 1)))) (aN (aN (aN (gL 82) (gN 82)) (aN (gI 82 6) (gF 127 0 0))) (aN (aN (gF 84 1 1) (uh 84 2)) (aN (gS 84 2) (Es 91 2)))))) (aN (aN (aN (aN (aN (aN (xV 91 [nS,nS]) (gF 91 0 0)) (gS 89 1)) (aN (gL 89) (gN 89))) (aN (aN (gI 89 9) (gF 129 0 0)) (aN (gF 91 1 1) (uh 91 2)))) (aN (aN (aN (aN (gS 91 2) (Es 94 7)) (uh 94 7)) (aN (gF 129 1 1) (gS 4 1))) (aN (aN (gF 129 2 2) (gS 94 7)) (aN (Es 88 4) (uh 88 4))))) (aN (aN (aN (aN (aN (gF 127 1 1) (gF 127 2 2)) (gS 88 4)) (aN (Es 81 19) (uh 81 19))) (aN (aN (gF 125 1 1) (gF 125 2 2)) (aN (gS 81 19) (gF 98 7 24)))) (aN (aN (aN (gF 98 6 23) (gL 96)) (aN (gN 96) (yk 135 [iv 0,iv 0,iv 0,iv 0,iv 0,iv 0,uv 0,.int .u8 0] [(0,1),(1,1),(2,1),(3,1),(4,4)]))) (aN (aN (gB 96 1 135 8 [iv 0,iv 0,iv 0,iv 0,iv 0,iv 0,uv 0,.int .u8 0]) (HX 96 135 8 [iv 0,iv 0,iv 0,iv 0,iv 0,iv 0,uv 0,.int .u8 0])) (aN (gS 96 1) (gF 98 10 27))))))))) (aN (aN (aN (aN (aN (aN (aN (aN (aN (gL 58) (gN 58)) (gI 58 2)) (aN (gF 137 0 0) (gF 137 1 1))) (aN (aN (uh 129 9) (xV 129 [uv 0,.bool false,iv 0,uv 0,iv 0,uv 0,uv 0,iv 0,uv 0])) (aN (gS 129 9) (gL 4)))) (aN (aN (aN (aN (gF 94 3 4) (gF 94 5 6)) (gF 81 0 0)) (aN (gL 78) (gF 113 3 3))) (aN (aN (gS 78 1) (gF 113 1 1)) (aN (gF 113 4 4) (gF 98 0 0))))) (aN (aN (aN (aN (aN (gF 25 9 9) (gF 81 5 7)) (gF 81 6 8)) (aN (xV 148 [.int .u8 0,.int .u8 0,.int .u8 0,.int .u8 0]) (gS 148 4))) (aN (aN (yk 43 [iv 0,uv 0,uv 0,uv 0,uv 0,uv 0] [(0,1),(1,5)]) (gF 148 0 0)) (aN (gL 146) (Sq 146 40 .i64 .u8)))) (aN (aN (aN (aN (gF 43 0 0) (gS 40 1)) (gF 43 1 1)) (aN (gF 81 7 9) (gS 33 1))) (aN (aN (xV 81 [iv 0,.bool false,iv 0,uv 0,iv 0,uv 0,.int .u8 0,iv 0,iv 0,uv 0,uv 0,uv 0,uv 0,uv 0,uv 0,uv 0,uv 0,iv 0,uv 0]) (uh 148 4)) (aN (gF 81 8 17) (Es 60 12)))))) (aN (aN (aN (aN (aN (aN (gA 58) (gA 49)) (gA 50)) (aN (gA 51) (xV 60 [uv 0,nS,nS,nS,nS,nS,nS,nS,nS,nS,nS,nS]))) (aN (aN (yk 60 [uv 0,nS,nS,nS,nS,nS,nS,nS,nS,nS,nS,nS] [(0,1),(1,1),(2,1),(3,1),(4,1),(5,6),(11,1)]) (gS 60 12)) (aN (uh 125 21) (xV 125 [uv 0,.bool false,iv 0,.bool false,iv 0,uv 0,iv 0,uv 0,.int .u8 0,iv 0,iv 0,uv 0,uv 0,uv 0,uv 0,uv 0,uv 0,uv 0,uv 0,iv 0,uv 0])))) (aN (aN (aN (aN (gS 125 21) (gF 60 1 1)) (gL 49)) (aN (yk 159 [iv 0,uv 0,iv 0,.bool false,iv 0,uv 0,iv 0,uv 0,.int .u8 0,iv 0,iv 0,uv 0,uv 0,uv 0,uv 0,uv 0,uv 0,uv 0,uv 0,iv 0,uv 0] [(0,2),(2,19)]) (gB 49 1 159 21 [iv 0,uv 0,iv 0,.bool false,iv 0,uv 0,iv 0,uv 0,.int .u8 0,iv 0,iv 0,uv 0,uv 0,uv 0,uv 0,uv 0,uv 0,uv 0,uv 0,iv 0,uv 0]))) (aN (aN (HX 49 159 21 [iv 0,uv 0,iv 0,.bool false,iv 0,uv 0,iv 0,uv 0,.int .u8 0,iv 0,iv 0,uv 0,uv 0,uv 0,uv 0,uv 0,uv 0,uv 0,uv 0,iv 0,uv 0]) (gS 49 1)) (aN (gF 25 6 6) (gI 96 8))))) (aN (aN (aN (aN (aN (gF 135 4 4) (yk 163 [iv 0,iv 0,iv 0,uv 0,.int .u8 0] [(0,1),(1,4)])) (gB 160 1 163 5 [iv 0,iv 0,iv 0,uv 0,.int .u8 0])) (aN (HX 160 163 5 [iv 0,iv 0,iv 0,uv 0,.int .u8 0]) (gF 60 4 4))) (aN (aN (gL 52) (gB 52 1 160 1 [nS])) (aN (HX 52 160 1 [nS]) (gS 52 1)))) (aN (aN (aN (uh 127 6) (xV 127 [uv 0,.bool false,uv 0,uv 0,nS,iv 0])) (aN (gS 127 6) (xV 88 [uv 0,uv 0,nS,iv 0]))) (aN (aN (gF 88 2 2) (gL 86)) (aN (gS 86 1) (gF 60 2 2))))))) (aN (aN (aN (aN (aN (aN (aN (gL 50) (yk 166 [iv 0,uv 0,uv 0,uv 0,nS,iv 0] [(0,2),(2,4)])) (gB 50 1 166 6 [iv 0,uv 0,uv 0,uv 0,nS,iv 0])) (aN (HX 50 166 6 [iv 0,uv 0,uv 0,uv 0,nS,iv 0]) (gS 50 1))) (aN (aN (gF 60 3 3) (gL 51)) (aN (yk 171 [iv 0,uv 0,iv 0,uv 0,iv 0,uv 0,uv 0,iv 0,uv 0,iv 0,iv 0,uv 0,iv 0] [(0,2),(2,11)]) (gB 51 1 171 13 [iv 0,uv 0,iv 0,uv 0,iv 0,uv 0,uv 0,iv 0,uv 0,iv 0,iv 0,uv 0,iv 0])))) (aN (aN (aN (aN (HX 51 171 13 [iv 0,uv 0,iv 0,uv 0,iv 0,uv 0,uv 0,iv 0,uv 0,iv 0,iv 0,uv 0,iv 0]) (gS 51 1)) (gF 98 11 28)) (aN (gF 60 0 0) (gF 60 5 5))) (aN (aN (uh 57 6) (gF 60 6 11)) (aN (gN 50) (gN 52))))) (aN (aN (aN (aN (aN (gI 50 6) (gF 166 0 0)) (gF 166 1 2)) (aN (gI 52 1) (gL 160))) (aN (aN (gN 61) (gI 61 12)) (aN (uh 174 12) (gI 182 1)))) (aN (aN (aN (gL 9) (xV 185 [.string ⟨⟨[]⟩⟩,.nilIface,iv 0,iv 0])) (aN (gS 185 4) (uh 185 4))) (aN (aN (gF 185 0 0) @Jd) (aN (HX 71 5 1 [.int .u8 0]) (gA 32)))))) (aN (aN (aN (aN (aN (aN (gL 32) (gF 81 3 4)) (gF 81 2 2)) (aN (gF 88 1 1) (gN 86))) (aN (aN (gI 86 2) (gF 103 1 1)) (aN (gF 25 7 7) (HX 86 103 2 [uv 0,uv 0])))) (aN (aN (aN (aN (gF 103 0 0) (gS 58 1)) (gB 205 3 39 1 [iv 0])) (aN (gI 205 1) (gS 39 1))) (aN (aN (gN 205) (gF 38 1 1)) (aN (Es 148 4) (yk 148 [.int .u8 0,.int .u8 0,.int .u8 0,.int .u8 0] [(0,1),(1,1),(2,1),(3,1)]))))) (aN (aN (aN (aN (aN (gI 71 1) (gL 5)) @mm_210) (aN (gF 148 1 1) (gF 148 2 2))) (aN (aN (gF 148 3 3) (gA 96)) (aN (xV 211 [iv 0,iv 0]) (gS 211 2)))) (aN (aN (aN (gL 40) (uh 211 2)) (aN (gIa 211 2 1) (gF 109 1 1))) (aN (aN (gF 88 3 3) (gF 98 12 29)) (aN (gF 25 8 8) (yk 174 [uv 0,uv 0,iv 0,uv 0,iv 0,iv 0,uv 0,uv 0,uv 0,uv 0,uv 0,iv 0] [(0,1),(1,1),(2,2),(4,1),(5,6),(11,1)])))))))) (aN (aN (aN (aN (aN (aN (aN (aN (gB 61 1 174 12 [uv 0,uv 0,iv 0,uv 0,iv 0,iv 0,uv 0,uv 0,uv 0,uv 0,uv 0,iv 0]) (HX 61 174 12 [uv 0,uv 0,iv 0,uv 0,iv 0,iv 0,uv 0,uv 0,uv 0,uv 0,uv 0,iv 0])) (gS 61 1)) (aN (gIa 79 8 1) (Sq 3 22 .u64 .i64))) (aN (aN (Sq 33 22 .u64 .i64) (Es 57 6)) (aN (gA 53) (gA 54)))) (aN (aN (aN (aN (xV 57 [nS,nS,nS,nS,nS,nS]) (gF 57 0 0)) (gF 57 1 1)) (aN (gF 57 2 2) (gL 54))) (aN (aN (gF 113 0 0) (gB 54 1 53 1 [nS])) (aN (HX 54 53 1 [nS]) (gS 54 1))))) (aN (aN (aN (aN (aN (gF 57 3 3) (gF 57 4 4)) (gL 55)) (aN (gB 55 1 22 1 [uv 0]) (HX 55 22 1 [uv 0]))) (aN (aN (gS 55 1) (gF 57 5 5)) (aN (gS 57 6) @GY))) (aN (aN (aN (gB 58 0 137 2 [uv 0,iv 0]) (HX 58 137 2 [uv 0,iv 0])) (aN @Ix (gB 86 0 103 2 [uv 0,uv 0]))) (aN (aN (Es 168 11) (xV 168 [iv 0,uv 0,iv 0,uv 0,uv 0,iv 0,uv 0,iv 0,iv 0,uv 0,iv 0])) (aN (gF 94 0 0) (gF 94 1 2)))))) (aN (aN (aN (aN (aN (aN (gF 94 2 3) (gF 94 4 5)) (yk 168 [iv 0,uv 0,iv 0,uv 0,uv 0,iv 0,uv 0,iv 0,iv 0,uv 0,iv 0] [(0,2),(2,1),(3,1),(4,1),(5,1),(6,1),(7,1),(8,1),(9,1),(10,1)])) (aN (gS 168 11) (gF 168 4 5))) (aN (aN (gF 168 5 6) (gF 168 9 10)) (aN (gF 168 7 8) (uh 168 11)))) (aN (aN (aN (aN @Ic (gB 61 0 174 12 [uv 0,uv 0,iv 0,uv 0,iv 0,iv 0,uv 0,uv 0,uv 0,uv 0,uv 0,iv 0])) (gN 49)) (aN (gI 49 21) (uh 159 21))) (aN (aN (gN 51) (gI 51 13)) (aN (uh 171 13) (gN 54))))) (aN (aN (aN (aN (aN (gN 55) (gI 54 1)) (gI 55 1)) (aN (uh 137 2) (gF 88 0 0))) (aN (aN (gN 160) (gI 160 5)) (aN (uh 163 5) (Sq 22 3 .i64 .u64)))) (aN (aN (aN (gB 182 14 9 1 [.string ⟨⟨[]⟩⟩]) (Es 186 56)) (aN (xV 186 [.string ⟨⟨[]⟩⟩,.nilIface,iv 0,iv 0,.string ⟨⟨[]⟩⟩,.nilIface,iv 0,iv 0,.string ⟨⟨[]⟩⟩,.nilIface,iv 0,iv 0,.string ⟨⟨[]⟩⟩,.nilIface,iv 0,iv 0,.string ⟨⟨[]⟩⟩,.nilIface,iv 0,iv 0,.string ⟨⟨[]⟩⟩,.nilIface,iv 0,iv 0,.string ⟨⟨[]⟩⟩,.nilIface,iv 0,iv 0,.string ⟨⟨[]⟩⟩,.nilIface,iv 0,iv 0,.string ⟨⟨[]⟩⟩,.nilIface,iv 0,iv 0,.string ⟨⟨[]⟩⟩,.nilIface,iv 0,iv 0,.string ⟨⟨[]⟩⟩,.nilIface,iv 0,iv 0,.string ⟨⟨[]⟩⟩,.nilIface,iv 0,iv 0,.string ⟨⟨[]⟩⟩,.nilIface,iv 0,iv 0,.string ⟨⟨[]⟩⟩,.nilIface,iv 0,iv 0]) @Zg)) (aN (aN (yk 185 [.string ⟨⟨[]⟩⟩,.nilIface,iv 0,iv 0] [(0,1),(1,1),(2,1),(3,1)]) (gF 25 1 1)) (aN (gF 25 5 5) @abZ)))))) (aN (aN (aN (aN (aN (aN (aN @bd_186 (gS 186 56)) (gF 185 1 1)) (aN (gL 20) @abv)) (aN (aN (gF 185 2 2) (gL 2)) (aN (gF 185 3 3) @ta_232))) (aN (aN (aN (aN (Sq 2 22 .u64 .i64) (gF 81 9 18)) (gF 81 1 1)) (aN (uh 103 2) (xV 103 [uv 0,uv 0]))) (aN (aN (gS 103 2) (xV 137 [uv 0,iv 0])) (aN (gS 137 2) (Es 211 2))))) (aN (aN (aN (aN (aN (gN 249) (gI 249 4)) (uh 252 4)) (aN (xV 252 [iv 0,iv 0,.int .u8 0,.bool false]) (gS 252 4))) (aN (aN (gF 252 0 0) (gIa 41 5 1)) (aN (gF 252 3 3) (gF 252 1 1)))) (aN (aN (aN (gL 106) (gF 109 0 0)) (aN (gF 252 2 2) (gL 107))) (aN (aN (gF 168 6 7) (gF 168 1 2)) (aN (gF 29 3 3) (Sq 22 5 .u8 .u64)))))) (aN (aN (aN (aN (aN (aN (gF 81 4 6) (gS 5 1)) (Es 109 4)) (aN (Sq 22 107 .u8 .u64) (gF 135 3 3))) (aN (aN (gF 168 0 0) (Sq 5 3 .i64 .u8)) (aN (Sq 3 268 .i16 .i64) (Sq 268 3 .i64 .i16)))) (aN (aN (aN (aN @I_ (gB 53 0 3 1 [iv 0])) (uh 135 8)) (aN (gF 135 2 2) (gB 55 14 22 1 [uv 0]))) (aN (aN (gB 53 10 3 1 [iv 0]) (gB 55 4 22 1 [uv 0])) (aN (yk 252 [iv 0,iv 0,.int .u8 0,.bool false] [(0,1),(1,1),(2,1),(3,1)]) (gB 249 2 252 4 [iv 0,iv 0,.int .u8 0,.bool false]))))) (aN (aN (aN (aN (aN (gB 249 1 252 4 [iv 0,iv 0,.int .u8 0,.bool false]) (yk 137 [uv 0,iv 0] [(0,1),(1,1)])) (gB 58 1 137 2 [uv 0,iv 0])) (aN (gA 74) (gA 5))) (aN (aN (xV 135 [iv 0,iv 0,iv 0,iv 0,iv 0,iv 0,uv 0,.int .u8 0]) (gS 135 8)) (aN (gF 135 0 0) (gF 135 1 1)))) (aN (aN (aN (Es 41 5) (uh 41 5)) (aN (xV 41 [uv 0,uv 0,uv 0,uv 0,uv 0]) (gS 41 5))) (aN (aN (gF 168 2 3) (yk 129 [uv 0,.bool false,iv 0,uv 0,iv 0,uv 0,uv 0,iv 0,uv 0] [(0,1),(1,1),(2,7)])) (aN (yk 127 [uv 0,.bool false,uv 0,uv 0,nS,iv 0] [(0,1),(1,1),(2,4)]) (yk 125 [uv 0,.bool false,iv 0,.bool false,iv 0,uv 0,iv 0,uv 0,.int .u8 0,iv 0,iv 0,uv 0,uv 0,uv 0,uv 0,uv 0,uv 0,uv 0,uv 0,iv 0,uv 0] [(0,1),(1,1),(2,19)]))))))))))
def WP:=(aN (aN (aN (aN (aN @bI @lH) (aN @aV @CH)) (aN (aN @Nat.lt_add_one @bu) (aN @je @ij))) (aN (aN (aN @Tc @Nat.le_refl) (aN @true_and @and_true)) (aN (aN @not_false_eq_true @not_true_eq_false) @Nat.one_ne_zero))) (aN (aN (aN (aN @Nat.zero_ne_one @Nat.add_zero) (aN @Addr.add_lit @Int.toNat_natCast)) (aN (aN @Int.toNat_zero @Nat.zero_mul) (aN @Bool.true_eq_false @Bool.false_eq_true))) (aN (aN (aN @Bool.not_true @Bool.not_false) (aN @ne_eq.{1} @List.getElem?_cons_zero.{0})) (aN (aN @List.getElem?_cons_succ.{0} @List.length_cons.{0}) @List.length_nil.{0}))))
def nL:=uS s3_1.eq_1
def nA:=uS s3_7.eq_1
def nK:=uS Zd.eq_1
def lh:=uS Rm.eq_1
def kh:=uS NK.eq_1
def ky:=uS Sf.eq_1
def kN:=uS WW.eq_1
def ks:=uS Xu.eq_1
def km:=uS Xw.eq_1
def W3:=(aN (aN (aN (aN @nL @nA) @nK) (aN @lh @kh)) (aN (aN @ky @kN) (aN @ks @km)))
def qv:=uS Xg.eq_1
def qW:=uS Ju.eq_1
def qx:=uS JQ.eq_1
def qQ:=uS Fs.eq_1
def qj:=uS EN.eq_1
def qC:=uS W_.eq_1
def qZ:=uS Xi.eq_1
def W6:=(aN (aN (aN @qv @qW) (aN @qx @qQ)) (aN (aN @qj @qC) @qZ))
def sX:=uS s7_1.eq_1
def uF:=uS s7_3.eq_1
def rZ:=uS YO.eq_1
def oh:=uS WV.eq_1
def nY:=uS Xh.eq_1
def n_:=uS WR.eq_1
def nW:=uS Xq.eq_1
def oB:=uS JI.eq_1
def ot:=uS JY.eq_1
def W7:=(aN (aN (aN (aN @sX @uF) @rZ) (aN @oh @nY)) (aN (aN @n_ @nW) (aN @oB @ot)))
def s8_1_w:=uS s8_1.eq_1
def Pw:=uS Pm.eq_1
def Uc:=uS Xp.eq_1
def OL:=uS OZ.eq_1
def Rx:=uS OU.eq_1
def Nn:=uS Qi.eq_1
def A0:=uS IJ.eq_1
def zN:=uS Hs.eq_1
def As:=uS HF.eq_1
def W26:=(aN (aN @A0 @zN) @As)
def OM:=uS Hv.eq_1
def Fh:=uS GL.eq_1
def Sx:=(aN @OM @Fh)
def h_:=uS yc.eq_1
def fZ:=uS AP.eq_1
def fG:=uS Rw.eq_1
def fN:=uS Aa.eq_1
def fQ:=uS Pa.eq_1
def fL:=uS P2.eq_1
def fO:=uS O9.eq_1
def fJ:=uS Qv.eq_1
def fM:=uS NY.eq_1
def fB:=uS DJ.eq_1
def fP:=uS zq.eq_1
def fK:=uS D4.eq_1
def fI:=uS HH.eq_1
def fH:=uS Sd.eq_1
def fF:=uS Np.eq_1
def fS:=uS Ny.eq_1
def fA:=uS OT.eq_1
def fD:=uS Ji.eq_1
def W28:=(aN (aN (aN (aN (aN @h_ @fZ) @fG) (aN @fN @fQ)) (aN (aN @fL @fO) (aN @fJ @fM))) (aN (aN (aN (aN @fB @fP) @fK) (aN @fI @fH)) (aN (aN @fF @fS) (aN @fA @fD))))
def gE:=uS Xn.eq_1
def gZ:=uS Xl.eq_1
def gu:=uS WQ.eq_1
def eQ:=uS Q7.eq_1
def eO:=uS Hq.eq_1
def eG:=uS Pp.eq_1
def f_:=uS Oj.eq_1
def eK:=uS No.eq_1
def eF:=uS OJ.eq_1
def eC:=uS Nf.eq_1
def ek:=uS R8.eq_1
def er:=uS Iw.eq_1
def eM:=uS Ol.eq_1
def ff:=uS OK.eq_1
def eA:=uS Ps.eq_1
def eL:=uS IL.eq_1
def eP:=uS Hg.eq_1
def eD:=uS NX.eq_1
def eJ:=uS Ni.eq_1
def eH:=uS Hj.eq_1
def eI:=uS GI.eq_1
def eB:=uS So.eq_1
def eE:=uS Qa.eq_1
def M7:=(aN (aN (aN (aN (aN @gE @gZ) @gu) (aN (aN @eQ @eO) @eG)) (aN (aN (aN @f_ @eK) @eF) (aN (aN @eC @ek) @er))) (aN (aN (aN (aN @eM @ff) @eA) (aN (aN @eL @eP) @eD)) (aN (aN (aN @eJ @eH) @eI) (aN @eB @eE))))
def zV:=uS GX.eq_1
def zC:=uS H3.eq_1
def yY:=uS Ry.eq_1
def W32:=(aN (aN @zV @zC) @yY)
def Pj:=uS HU.eq_1
def wo:=uS GH.eq_1
def uY:=uS Oy.eq_1
def vG:=uS HK.eq_1
def vY:=uS HN.eq_1
def W47:=(aN (aN @wo @uY) (aN @vG @vY))
def jH:=uS Ow.eq_1
def jK:=uS N2.eq_1
def jN:=uS D3.eq_1
def jf:=uS Se.eq_1
def jj:=uS Qf.eq_1
def i_:=uS Oe.eq_1
def jh:=uS IU.eq_1
def jk:=uS IW.eq_1
def jd:=uS O_.eq_1
def W49:=(aN (aN (aN (aN @jH @jK) @jN) (aN @jf @jj)) (aN (aN @i_ @jh) (aN @jk @jd)))
def tE:=uS JW.eq_1
def tw:=uS P5.eq_1
def tT:=uS ON.eq_1
def pH:=uS DO.eq_1
def qd:=uS Jf.eq_1
def pY:=uS Oq.eq_1
def px:=uS Hf.eq_1
def W50:=(aN (aN (aN @tE @tw) (aN @tT @pH)) (aN (aN @qd @pY) @px))
def TP:=uS Xd.eq_1
def tL:=uS W0.eq_1
def tG:=uS Xe.eq_1
def pQ:=uS PK.eq_1
def pM:=uS NO.eq_1
def pJ:=uS O7.eq_1
def W51:=(aN (aN (aN @TP @tL) @tG) (aN (aN @pQ @pM) @pJ))
def JU:=uS Kk.eq_1
def Fx:=uS H2.eq_1
def W55:=(aN @JU @Fx)
def zk:=uS HS.eq_1
def AT:=uS Hn.eq_1
def zA:=uS Pc.eq_1
def W59:=(aN (aN @zk @AT) @zA)
def Vk:=uS Xt.eq_1
def vP:=uS Eh.eq_1
def AQ:=uS CY.eq_1
def vI:=uS NP.eq_1
def vR:=uS IS.eq_1
def vp:=uS R0.eq_1
def W89:=(aN (aN @AQ @vI) (aN @vR @vp))
def rW:=uS Q0.eq_1
def sf:=uS Pq.eq_1
def sy:=uS P9.eq_1
def sS:=uS Hk.eq_1
def pK:=uS JP.eq_1
def W90:=(aN (aN (aN @rW @sf) @sy) (aN @sS @pK))
def yV:=uS On.eq_1
def xI:=uS Dk.eq_1
def xk:=uS J_.eq_1
def Jw:=(aN (aN @yV @xI) @xk)
def BF:=uS C2.eq_1
def EU:=uS Iu.eq_1
def OS:=uS Gw.eq_1
def BD:=uS JK.eq_1
def W136:=(aN @OS @BD)
open Go.Ev
theorem Q6 {k:IntKind}{n:Int}:(bt 50 (.int k n) (.int k n)=true)=True:=by simp[bt]
theorem MS {b:Bool}:(bt 50 (.bool b) (.bool b)=true)=True:=by simp[bt]
theorem Eb {i o n c:Nat}:(bt 50 (.slice (some ⟨i,o,none⟩) n c) (.slice (some ⟨i,o,none⟩) n c)=true)=True:=by simp[bt]
theorem At {n c:Nat}:(bt 50 (.slice none n c) (.slice none n c)=true)=True:=by simp[bt]
theorem Rc {i o:Nat}:(bt 50 (.pointer (some ⟨i,o,none⟩)) (.pointer (some ⟨i,o,none⟩))=true)=True:=by simp[bt]
theorem w01:IntKind.wrap .i64 (0+1)=1:=rfl
def WS:=aN @Q6 (aN @MS (aN @Eb (aN @At (aN @Rc (aN @Nat.zero_add w01)))))
structure Wr (P:Prop):Prop where
 o:P
theorem Wr.a {P Q:Prop}(w:Wr P) (q:Q):Wr (Q∧P):=⟨q,w.o⟩
theorem mW {P:Prop}(p:P):Wr P:=⟨p⟩
section
variable {fr fr0:Fr}{h:ak}{i o n:Nat}{v:Value}{l cs:List Value}{K:Value→Prop}{e:TypeId}{b:Bool}{p q A B:Prop}
theorem CJ (a:A) (hp:p:=by omega):lW p A B:=Jo hp a
theorem CS (b:B) (hp:¬p:=by omega):lW p A B:=Qd hp b
theorem wN (a:p→A) (b:¬p→B):lW p A B:=FZ a b
theorem CU (a:A) (hp:p:=by omega) (hq:q:=by omega):(p∧q)∧A:=⟨⟨hp,hq⟩,a⟩
theorem Ea (a:A) (hp:p:=by omega):p∧A:=⟨hp,a⟩
theorem CN (a:A) (hp:l.all aE=true:=by with_unfolding_all rfl):l.all aE=true∧A:=⟨hp,a⟩
theorem C1 {K:Value→ak→Prop}(k:K undef (ai h (.cells l e b))) (hc:(Nat.beq l.length n&&Nat.beq cs.length n&&l.all aE&&!Nat.beq n 0)=true:=by with_unfolding_all rfl):jQ n (.pointer (some ⟨h.n,0,none⟩)) (.agg ⟨l⟩) (ai h (.cells cs e b)) K:=Kd hc k
theorem C9 {zs:List Value}{K:Value→ak→Prop}(k:K (.slice (some ⟨h.n,0,none⟩) 1 1) (ai h (.cells v.cells.toList e true))) (hc:(Nat.beq v.cells.toList.length n&&Nat.beq zs.length n&&!Nat.beq n 0)=true:=by with_unfolding_all rfl):vX e n zs 1 [(0,v)] h K:=J4 hc k
theorem Du {zs:List Value}{pl:List (Nat×Nat)}{ps:List (Nat×Value)}(k:K (.agg ⟨l⟩)) (hf:iV (nth pl) zs ps=some l:=by with_unfolding_all (simp only[Jh,Mm,dL,blt_eq,bF,fV,Value.cells,List.getElem?_cons_zero,List.getElem?_cons_succ,List.length_cons,List.length_nil,Nat.reduceAdd,Nat.reduceSub,Nat.reduceLT,Nat.reduceEqDiff,decide_true,cond_true,Option.map_some,if_true,if_false,Nat.add_one_sub_one,Nat.succ_ne_zero,reduceCtorEq,OfNat.ofNat];rfl)):yb zs pl ps K:=WO hf k
theorem C0 {zs:List Value}{ps:List (Nat×Value)}(k:K (.agg ⟨l⟩)) (hf:iV (fun i=>some (i*n,n)) zs ps=some l:=by with_unfolding_all rfl):lU zs n ps K:=ab9 hf k
theorem Dd (k:K v) (q:fr.get i=some v:=by with_reducible assumption):eR fr i K:=(bf q K).mpr k
theorem Ei (k:eR fr0 i K) (q:fr.get i=fr0.get i:=by exact hag _ rfl):eR fr i K:=(jP q K).mpr k
theorem Cz (k:K v) (q:cellAt h ⟨i,o,none⟩=some v:=by with_reducible assumption):de (cellAt h ⟨i,o,none⟩) K:=⟨v,q,k⟩
theorem C_ (k:K v) (g:h.b.get i=some (.cells cs e b):=by with_reducible assumption) (q:cs[o]?=some v:=by with_unfolding_all rfl) (t:i<h.n:=by omega):de (cellAt h ⟨i,o,none⟩) K:=Cz k (ay t g q)
theorem BZ {K:List Value→Prop}(k:K l) (q:av h ⟨i,o,none⟩ n=some l:=by with_reducible assumption):de (av h ⟨i,o,none⟩ n) K:=⟨l,q,k⟩
theorem D1 {K:List Value→Prop}(k:K cs) (g:h.b.get i=some (.cells cs e b):=by with_reducible assumption) (q:cs.length=n:=by with_unfolding_all rfl) (t:i<h.n:=by omega):de (av h ⟨i,0,none⟩ n) K:=BZ k (aq t g (by subst q;simp) q)
theorem CP (q:fr.get i=some v):eR fr i K=K v:=bf q K
theorem DX (q:fr.get i=fr0.get i):eR fr i K=eR fr0 i K:=jP q K
theorem CI (q:cellAt h ⟨i,o,none⟩=some v):cellAt h ⟨i,o,none⟩=some v:=q
theorem D7 (q:av h ⟨i,o,none⟩ n=some l):av h ⟨i,o,none⟩ n=some l:=q
theorem DM (g:h.b.get i=some (.cells cs e b)) (t:i<h.n) (q:cs[o]?=some v):cellAt h ⟨i,o,none⟩=some v:=ay t g q
theorem qp (g:h.b.get i=some (.cells cs e b)) (t:i<h.n) (q:cs.length=n):av h ⟨i,0,none⟩ n=some cs:=aq t g (by subst q;simp) q
theorem Ef {f:Go.Func}{E:Env}{k:Nat}{l:List GO}{Q:Fr→ak→Prop}(q:gV E l fr h Q) (e:rg f k=l:=by conv=>lhs;cbv):gV E (rg f k) fr h Q:=by subst e;exact q
theorem DU {E:Env}{p l:List (GO×List GO)}{Q:Fr→ak→Prop}(q:dJ E l fr h Q) (e:p=l:=by (fail_if_success (conv=>lhs;arg 1));conv=>lhs;cbv):dJ E p fr h Q:=by subst e;exact q
theorem Dl {f:Go.Func}{E:Env}{k:Nat}{l:List GO}{Q:Fr→ak→Prop}(e:rg f k=l):gV E (rg f k) fr h Q=gV E l fr h Q:=by rw[e]
theorem _root_.Go.Ev.aw.cY {B i:Nat}{h h':ak}{k:Option iY}(x:aw B h h') (e:h.b.get i=k) (l:i<B:=by omega):h'.b.get i=k:=(x.get i l).trans e
theorem _root_.Go.Ev.aw.jI {B B':Nat}{h h1 h2:ak}(a:aw B h h1) (b:aw B' h1 h2) (l:B≤B':=by omega):aw B h h2:=a.trans (b.mono l)
theorem rU (k:Nat) (h:k≤4611686018427387904:=by omega):IntKind.wrap .i64 ((k:Int)+1)=((k+1:Nat):Int):=bC h
theorem br {B:Nat}{h:ak}{k:iY}(l:B≤h.n:=by exact Nat.le_refl _):aw B h (ai h k):=aw.new _ l
theorem tW {h h':ak}{k:iY}(e:ai h k=h'):aw h.n h h':=e▸aw.new _ (Nat.le_refl _)
theorem Dj {h h':ak}{k:iY}(e:ai h k=h'):h'.b.get h.n=some k:=e▸az _ _
theorem qk {h h':ak}{k:iY}(e:ai h k=h'):h'.n=h.n+1:=e▸rfl
structure Hd (Q:Prop):Prop where
 o:Q
theorem wk {P Q:Prop}(k:Q) (h:Hd Q→P:=by intro q;(repeat' (first|(with_reducible show gV _ (rg _ _) _ _ _;first|with_reducible refine Ef ?_)|(with_reducible show lW _ _ _;first|with_reducible refine CJ ?_|with_reducible refine CS ?_)|(with_reducible show _∧_;first|with_reducible refine CU ?_|with_reducible refine CN ?_|with_reducible refine Ea ?_)|(with_reducible show jQ _ _ _ _ _;first|with_reducible refine C1 ?_)|(with_reducible show vX _ _ _ _ _ _ _;first|with_reducible refine C9 ?_)|(with_reducible show yb _ _ _ _;first|with_reducible refine Du ?_)|(with_reducible show lU _ _ _ _;first|with_reducible refine C0 ?_)|(with_reducible show eR _ _ _;first|with_reducible refine Dd ?_|with_reducible refine Ei ?_)|(with_reducible show de (cellAt _ _) _;first|with_reducible refine Cz ?_|with_reducible refine C_ ?_|with_reducible refine DZ ?_)|(with_reducible show de (av _ _ _) _;first|with_reducible refine BZ ?_|with_reducible refine D1 ?_)|simp -dsimp only[↓ww.o,↓WB,WP,WS,bE,Nat.reduceEqDiff,Nat.reduceAdd]|simp -dsimp only[↓WB,WP,WS,bE,Nat.reduceEqDiff,Nat.reduceAdd]|(with_reducible show dJ _ _ _ _ _;refine DU ?_)|simp -dsimp (disch:=(first|with_reducible assumption|(with_reducible refine hag _ ?_;rfl)|(with_reducible show _<_;omega))) only [CP,DX,CI,D7]|simp -dsimp (disch:=(first|with_reducible assumption|(with_reducible refine hag _ ?_;rfl)|(with_reducible show _<_;omega))) only [Dz,cL,p_,List.getElem?_cons_zero,List.getElem?_cons_succ]|simp -dsimp (disch:=(first|with_reducible assumption|(with_reducible show _<_;omega)|(with_reducible show GetElem?.getElem? _ _=_;with_unfolding_all rfl)|(with_reducible show List.length _=_;with_unfolding_all rfl))) only [DM,qp]|simp -dsimp (disch:=(conv=>lhs;cbv)) only [Dl]));exact q.o):P:=h ⟨k⟩
theorem Ep {P Q R:Prop}(k:Q) (l:R) (h:Hd Q→Hd R→P:=by intro q r;(repeat' (first|(with_reducible show gV _ (rg _ _) _ _ _;first|with_reducible refine Ef ?_)|(with_reducible show lW _ _ _;first|with_reducible refine CJ ?_|with_reducible refine CS ?_|with_reducible refine wN (fun _=>?_) (fun _=>?_))|(with_reducible show _∧_;first|with_reducible refine CU ?_|with_reducible refine CN ?_|with_reducible refine Ea ?_)|(with_reducible show jQ _ _ _ _ _;first|with_reducible refine C1 ?_)|(with_reducible show vX _ _ _ _ _ _ _;first|with_reducible refine C9 ?_)|(with_reducible show yb _ _ _ _;first|with_reducible refine Du ?_)|(with_reducible show lU _ _ _ _;first|with_reducible refine C0 ?_)|(with_reducible show eR _ _ _;first|with_reducible refine Dd ?_|with_reducible refine Ei ?_)|(with_reducible show de (cellAt _ _) _;first|with_reducible refine Cz ?_|with_reducible refine C_ ?_|with_reducible refine DZ ?_)|(with_reducible show de (av _ _ _) _;first|with_reducible refine BZ ?_|with_reducible refine D1 ?_)|simp -dsimp only[↓ww.o,↓WB,WP,WS,bE,Nat.reduceEqDiff,Nat.reduceAdd]|simp -dsimp only[↓WB,WP,WS,bE,Nat.reduceEqDiff,Nat.reduceAdd]|(with_reducible show dJ _ _ _ _ _;refine DU ?_)|simp -dsimp (disch:=(first|with_reducible assumption|(with_reducible refine hag _ ?_;rfl)|(with_reducible show _<_;omega))) only [CP,DX,CI,D7]|simp -dsimp (disch:=(first|with_reducible assumption|(with_reducible refine hag _ ?_;rfl)|(with_reducible show _<_;omega))) only [Dz,cL,p_,List.getElem?_cons_zero,List.getElem?_cons_succ]|simp -dsimp (disch:=(first|with_reducible assumption|(with_reducible show _<_;omega)|(with_reducible show GetElem?.getElem? _ _=_;with_unfolding_all rfl)|(with_reducible show List.length _=_;with_unfolding_all rfl))) only [DM,qp]|simp -dsimp (disch:=(conv=>lhs;cbv)) only [Dl]));exact q.o;exact r.o):P:=h ⟨k⟩ ⟨l⟩
theorem wkE {P:Prop}(h:P:=by (repeat' (first|(with_reducible show gV _ (rg _ _) _ _ _;first|with_reducible refine Ef ?_)|(with_reducible show lW _ _ _;first|with_reducible refine CJ ?_|with_reducible refine CS ?_|with_reducible refine wN (fun _=>?_) (fun _=>?_))|(with_reducible show _∧_;first|with_reducible refine CU ?_|with_reducible refine CN ?_|with_reducible refine Ea ?_)|(with_reducible show jQ _ _ _ _ _;first|with_reducible refine C1 ?_)|(with_reducible show vX _ _ _ _ _ _ _;first|with_reducible refine C9 ?_)|(with_reducible show yb _ _ _ _;first|with_reducible refine Du ?_)|(with_reducible show lU _ _ _ _;first|with_reducible refine C0 ?_)|(with_reducible show eR _ _ _;first|with_reducible refine Dd ?_|with_reducible refine Ei ?_)|(with_reducible show de (cellAt _ _) _;first|with_reducible refine Cz ?_|with_reducible refine C_ ?_|with_reducible refine DZ ?_)|(with_reducible show de (av _ _ _) _;first|with_reducible refine BZ ?_|with_reducible refine D1 ?_)|simp -dsimp only[↓ww.o,↓WB,WP,WS,bE,Nat.reduceEqDiff,Nat.reduceAdd]|simp -dsimp only[↓WB,WP,WS,bE,Nat.reduceEqDiff,Nat.reduceAdd]|(with_reducible show dJ _ _ _ _ _;refine DU ?_)|simp -dsimp (disch:=(first|with_reducible assumption|(with_reducible refine hag _ ?_;rfl)|(with_reducible show _<_;omega))) only [CP,DX,CI,D7]|simp -dsimp (disch:=(first|with_reducible assumption|(with_reducible refine hag _ ?_;rfl)|(with_reducible show _<_;omega))) only [Dz,cL,p_,List.getElem?_cons_zero,List.getElem?_cons_succ]|simp -dsimp (disch:=(first|with_reducible assumption|(with_reducible show _<_;omega)|(with_reducible show GetElem?.getElem? _ _=_;with_unfolding_all rfl)|(with_reducible show List.length _=_;with_unfolding_all rfl))) only [DM,qp]|simp -dsimp (disch:=(conv=>lhs;cbv)) only [Dl]))):P:=h
end
end Go.Proofs.YthjlppdnlahhoaaGreat
