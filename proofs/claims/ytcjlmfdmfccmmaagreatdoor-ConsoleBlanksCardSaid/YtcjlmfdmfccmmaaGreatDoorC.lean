/- The program's tables; the analyser's inner loops by recursors, proved equal. -/
import Derived.Test.YtcjlmfdmfccmmaaGreatDoorProg
import Derived.KernelRfl
import Derived.Test.YtcjlmfdmfccmmaaGreatDoorA
import Derived.Test.YtcjlmfdmfccmmaaGreatDoorB3
import Derived.Laws.Externs
namespace Go.Hal
noncomputable section
open Go Go.Proofs
set_option maxRecDepth 100000
noncomputable def tyTr : Tr TypeInfo := (.node (some Tryz.t0) (.node (some Tryz.t1) (.node (some Tryz.t3) (.node (some Tryz.t7) (.node (some Tryz.t15) (.node (some Tryz.t31) (.node (some Tryz.t63) (.node (some Tryz.t127) (.node (some Tryz.t255) .nil .nil) .nil) (.node (some Tryz.t191) (.node (some Tryz.t319) .nil .nil) .nil)) (.node (some Tryz.t95) (.node (some Tryz.t159) (.node (some Tryz.t287) .nil .nil) .nil) (.node (some Tryz.t223) (.node (some Tryz.t351) .nil .nil) .nil))) (.node (some Tryz.t47) (.node (some Tryz.t79) (.node (some Tryz.t143) (.node (some Tryz.t271) .nil .nil) .nil) (.node (some Tryz.t207) (.node (some Tryz.t335) .nil .nil) .nil)) (.node (some Tryz.t111) (.node (some Tryz.t175) (.node (some Tryz.t303) .nil .nil) .nil) (.node (some Tryz.t239) .nil .nil)))) (.node (some Tryz.t23) (.node (some Tryz.t39) (.node (some Tryz.t71) (.node (some Tryz.t135) (.node (some Tryz.t263) .nil .nil) .nil) (.node (some Tryz.t199) (.node (some Tryz.t327) .nil .nil) .nil)) (.node (some Tryz.t103) (.node (some Tryz.t167) (.node (some Tryz.t295) .nil .nil) .nil) (.node (some Tryz.t231) .nil .nil))) (.node (some Tryz.t55) (.node (some Tryz.t87) (.node (some Tryz.t151) (.node (some Tryz.t279) .nil .nil) .nil) (.node (some Tryz.t215) (.node (some Tryz.t343) .nil .nil) .nil)) (.node (some Tryz.t119) (.node (some Tryz.t183) (.node (some Tryz.t311) .nil .nil) .nil) (.node (some Tryz.t247) .nil .nil))))) (.node (some Tryz.t11) (.node (some Tryz.t19) (.node (some Tryz.t35) (.node (some Tryz.t67) (.node (some Tryz.t131) (.node (some Tryz.t259) .nil .nil) .nil) (.node (some Tryz.t195) (.node (some Tryz.t323) .nil .nil) .nil)) (.node (some Tryz.t99) (.node (some Tryz.t163) (.node (some Tryz.t291) .nil .nil) .nil) (.node (some Tryz.t227) (.node (some Tryz.t355) .nil .nil) .nil))) (.node (some Tryz.t51) (.node (some Tryz.t83) (.node (some Tryz.t147) (.node (some Tryz.t275) .nil .nil) .nil) (.node (some Tryz.t211) (.node (some Tryz.t339) .nil .nil) .nil)) (.node (some Tryz.t115) (.node (some Tryz.t179) (.node (some Tryz.t307) .nil .nil) .nil) (.node (some Tryz.t243) .nil .nil)))) (.node (some Tryz.t27) (.node (some Tryz.t43) (.node (some Tryz.t75) (.node (some Tryz.t139) (.node (some Tryz.t267) .nil .nil) .nil) (.node (some Tryz.t203) (.node (some Tryz.t331) .nil .nil) .nil)) (.node (some Tryz.t107) (.node (some Tryz.t171) (.node (some Tryz.t299) .nil .nil) .nil) (.node (some Tryz.t235) .nil .nil))) (.node (some Tryz.t59) (.node (some Tryz.t91) (.node (some Tryz.t155) (.node (some Tryz.t283) .nil .nil) .nil) (.node (some Tryz.t219) (.node (some Tryz.t347) .nil .nil) .nil)) (.node (some Tryz.t123) (.node (some Tryz.t187) (.node (some Tryz.t315) .nil .nil) .nil) (.node (some Tryz.t251) .nil .nil)))))) (.node (some Tryz.t5) (.node (some Tryz.t9) (.node (some Tryz.t17) (.node (some Tryz.t33) (.node (some Tryz.t65) (.node (some Tryz.t129) (.node (some Tryz.t257) .nil .nil) .nil) (.node (some Tryz.t193) (.node (some Tryz.t321) .nil .nil) .nil)) (.node (some Tryz.t97) (.node (some Tryz.t161) (.node (some Tryz.t289) .nil .nil) .nil) (.node (some Tryz.t225) (.node (some Tryz.t353) .nil .nil) .nil))) (.node (some Tryz.t49) (.node (some Tryz.t81) (.node (some Tryz.t145) (.node (some Tryz.t273) .nil .nil) .nil) (.node (some Tryz.t209) (.node (some Tryz.t337) .nil .nil) .nil)) (.node (some Tryz.t113) (.node (some Tryz.t177) (.node (some Tryz.t305) .nil .nil) .nil) (.node (some Tryz.t241) .nil .nil)))) (.node (some Tryz.t25) (.node (some Tryz.t41) (.node (some Tryz.t73) (.node (some Tryz.t137) (.node (some Tryz.t265) .nil .nil) .nil) (.node (some Tryz.t201) (.node (some Tryz.t329) .nil .nil) .nil)) (.node (some Tryz.t105) (.node (some Tryz.t169) (.node (some Tryz.t297) .nil .nil) .nil) (.node (some Tryz.t233) .nil .nil))) (.node (some Tryz.t57) (.node (some Tryz.t89) (.node (some Tryz.t153) (.node (some Tryz.t281) .nil .nil) .nil) (.node (some Tryz.t217) (.node (some Tryz.t345) .nil .nil) .nil)) (.node (some Tryz.t121) (.node (some Tryz.t185) (.node (some Tryz.t313) .nil .nil) .nil) (.node (some Tryz.t249) .nil .nil))))) (.node (some Tryz.t13) (.node (some Tryz.t21) (.node (some Tryz.t37) (.node (some Tryz.t69) (.node (some Tryz.t133) (.node (some Tryz.t261) .nil .nil) .nil) (.node (some Tryz.t197) (.node (some Tryz.t325) .nil .nil) .nil)) (.node (some Tryz.t101) (.node (some Tryz.t165) (.node (some Tryz.t293) .nil .nil) .nil) (.node (some Tryz.t229) .nil .nil))) (.node (some Tryz.t53) (.node (some Tryz.t85) (.node (some Tryz.t149) (.node (some Tryz.t277) .nil .nil) .nil) (.node (some Tryz.t213) (.node (some Tryz.t341) .nil .nil) .nil)) (.node (some Tryz.t117) (.node (some Tryz.t181) (.node (some Tryz.t309) .nil .nil) .nil) (.node (some Tryz.t245) .nil .nil)))) (.node (some Tryz.t29) (.node (some Tryz.t45) (.node (some Tryz.t77) (.node (some Tryz.t141) (.node (some Tryz.t269) .nil .nil) .nil) (.node (some Tryz.t205) (.node (some Tryz.t333) .nil .nil) .nil)) (.node (some Tryz.t109) (.node (some Tryz.t173) (.node (some Tryz.t301) .nil .nil) .nil) (.node (some Tryz.t237) .nil .nil))) (.node (some Tryz.t61) (.node (some Tryz.t93) (.node (some Tryz.t157) (.node (some Tryz.t285) .nil .nil) .nil) (.node (some Tryz.t221) (.node (some Tryz.t349) .nil .nil) .nil)) (.node (some Tryz.t125) (.node (some Tryz.t189) (.node (some Tryz.t317) .nil .nil) .nil) (.node (some Tryz.t253) .nil .nil))))))) (.node (some Tryz.t2) (.node (some Tryz.t4) (.node (some Tryz.t8) (.node (some Tryz.t16) (.node (some Tryz.t32) (.node (some Tryz.t64) (.node (some Tryz.t128) (.node (some Tryz.t256) .nil .nil) .nil) (.node (some Tryz.t192) (.node (some Tryz.t320) .nil .nil) .nil)) (.node (some Tryz.t96) (.node (some Tryz.t160) (.node (some Tryz.t288) .nil .nil) .nil) (.node (some Tryz.t224) (.node (some Tryz.t352) .nil .nil) .nil))) (.node (some Tryz.t48) (.node (some Tryz.t80) (.node (some Tryz.t144) (.node (some Tryz.t272) .nil .nil) .nil) (.node (some Tryz.t208) (.node (some Tryz.t336) .nil .nil) .nil)) (.node (some Tryz.t112) (.node (some Tryz.t176) (.node (some Tryz.t304) .nil .nil) .nil) (.node (some Tryz.t240) .nil .nil)))) (.node (some Tryz.t24) (.node (some Tryz.t40) (.node (some Tryz.t72) (.node (some Tryz.t136) (.node (some Tryz.t264) .nil .nil) .nil) (.node (some Tryz.t200) (.node (some Tryz.t328) .nil .nil) .nil)) (.node (some Tryz.t104) (.node (some Tryz.t168) (.node (some Tryz.t296) .nil .nil) .nil) (.node (some Tryz.t232) .nil .nil))) (.node (some Tryz.t56) (.node (some Tryz.t88) (.node (some Tryz.t152) (.node (some Tryz.t280) .nil .nil) .nil) (.node (some Tryz.t216) (.node (some Tryz.t344) .nil .nil) .nil)) (.node (some Tryz.t120) (.node (some Tryz.t184) (.node (some Tryz.t312) .nil .nil) .nil) (.node (some Tryz.t248) .nil .nil))))) (.node (some Tryz.t12) (.node (some Tryz.t20) (.node (some Tryz.t36) (.node (some Tryz.t68) (.node (some Tryz.t132) (.node (some Tryz.t260) .nil .nil) .nil) (.node (some Tryz.t196) (.node (some Tryz.t324) .nil .nil) .nil)) (.node (some Tryz.t100) (.node (some Tryz.t164) (.node (some Tryz.t292) .nil .nil) .nil) (.node (some Tryz.t228) (.node (some Tryz.t356) .nil .nil) .nil))) (.node (some Tryz.t52) (.node (some Tryz.t84) (.node (some Tryz.t148) (.node (some Tryz.t276) .nil .nil) .nil) (.node (some Tryz.t212) (.node (some Tryz.t340) .nil .nil) .nil)) (.node (some Tryz.t116) (.node (some Tryz.t180) (.node (some Tryz.t308) .nil .nil) .nil) (.node (some Tryz.t244) .nil .nil)))) (.node (some Tryz.t28) (.node (some Tryz.t44) (.node (some Tryz.t76) (.node (some Tryz.t140) (.node (some Tryz.t268) .nil .nil) .nil) (.node (some Tryz.t204) (.node (some Tryz.t332) .nil .nil) .nil)) (.node (some Tryz.t108) (.node (some Tryz.t172) (.node (some Tryz.t300) .nil .nil) .nil) (.node (some Tryz.t236) .nil .nil))) (.node (some Tryz.t60) (.node (some Tryz.t92) (.node (some Tryz.t156) (.node (some Tryz.t284) .nil .nil) .nil) (.node (some Tryz.t220) (.node (some Tryz.t348) .nil .nil) .nil)) (.node (some Tryz.t124) (.node (some Tryz.t188) (.node (some Tryz.t316) .nil .nil) .nil) (.node (some Tryz.t252) .nil .nil)))))) (.node (some Tryz.t6) (.node (some Tryz.t10) (.node (some Tryz.t18) (.node (some Tryz.t34) (.node (some Tryz.t66) (.node (some Tryz.t130) (.node (some Tryz.t258) .nil .nil) .nil) (.node (some Tryz.t194) (.node (some Tryz.t322) .nil .nil) .nil)) (.node (some Tryz.t98) (.node (some Tryz.t162) (.node (some Tryz.t290) .nil .nil) .nil) (.node (some Tryz.t226) (.node (some Tryz.t354) .nil .nil) .nil))) (.node (some Tryz.t50) (.node (some Tryz.t82) (.node (some Tryz.t146) (.node (some Tryz.t274) .nil .nil) .nil) (.node (some Tryz.t210) (.node (some Tryz.t338) .nil .nil) .nil)) (.node (some Tryz.t114) (.node (some Tryz.t178) (.node (some Tryz.t306) .nil .nil) .nil) (.node (some Tryz.t242) .nil .nil)))) (.node (some Tryz.t26) (.node (some Tryz.t42) (.node (some Tryz.t74) (.node (some Tryz.t138) (.node (some Tryz.t266) .nil .nil) .nil) (.node (some Tryz.t202) (.node (some Tryz.t330) .nil .nil) .nil)) (.node (some Tryz.t106) (.node (some Tryz.t170) (.node (some Tryz.t298) .nil .nil) .nil) (.node (some Tryz.t234) .nil .nil))) (.node (some Tryz.t58) (.node (some Tryz.t90) (.node (some Tryz.t154) (.node (some Tryz.t282) .nil .nil) .nil) (.node (some Tryz.t218) (.node (some Tryz.t346) .nil .nil) .nil)) (.node (some Tryz.t122) (.node (some Tryz.t186) (.node (some Tryz.t314) .nil .nil) .nil) (.node (some Tryz.t250) .nil .nil))))) (.node (some Tryz.t14) (.node (some Tryz.t22) (.node (some Tryz.t38) (.node (some Tryz.t70) (.node (some Tryz.t134) (.node (some Tryz.t262) .nil .nil) .nil) (.node (some Tryz.t198) (.node (some Tryz.t326) .nil .nil) .nil)) (.node (some Tryz.t102) (.node (some Tryz.t166) (.node (some Tryz.t294) .nil .nil) .nil) (.node (some Tryz.t230) .nil .nil))) (.node (some Tryz.t54) (.node (some Tryz.t86) (.node (some Tryz.t150) (.node (some Tryz.t278) .nil .nil) .nil) (.node (some Tryz.t214) (.node (some Tryz.t342) .nil .nil) .nil)) (.node (some Tryz.t118) (.node (some Tryz.t182) (.node (some Tryz.t310) .nil .nil) .nil) (.node (some Tryz.t246) .nil .nil)))) (.node (some Tryz.t30) (.node (some Tryz.t46) (.node (some Tryz.t78) (.node (some Tryz.t142) (.node (some Tryz.t270) .nil .nil) .nil) (.node (some Tryz.t206) (.node (some Tryz.t334) .nil .nil) .nil)) (.node (some Tryz.t110) (.node (some Tryz.t174) (.node (some Tryz.t302) .nil .nil) .nil) (.node (some Tryz.t238) .nil .nil))) (.node (some Tryz.t62) (.node (some Tryz.t94) (.node (some Tryz.t158) (.node (some Tryz.t286) .nil .nil) .nil) (.node (some Tryz.t222) (.node (some Tryz.t350) .nil .nil) .nil)) (.node (some Tryz.t126) (.node (some Tryz.t190) (.node (some Tryz.t318) .nil .nil) .nil) (.node (some Tryz.t254) .nil .nil))))))))
noncomputable def fnTr : Tr Func := (.node none (.node none (.node (some Tryz.f3) (.node (some Tryz.f7) (.node (some Tryz.f15) (.node (some Tryz.f31) (.node (some Tryz.f63) (.node (some Tryz.f127) (.node (some Tryz.f255) .nil .nil) .nil) (.node (some Tryz.f191) .nil .nil)) (.node (some Tryz.f95) (.node (some Tryz.f159) .nil .nil) (.node (some Tryz.f223) .nil .nil))) (.node (some Tryz.f47) (.node (some Tryz.f79) (.node (some Tryz.f143) (.node (some Tryz.f271) .nil .nil) .nil) (.node (some Tryz.f207) .nil .nil)) (.node (some Tryz.f111) (.node (some Tryz.f175) .nil .nil) (.node (some Tryz.f239) .nil .nil)))) (.node (some Tryz.f23) (.node (some Tryz.f39) (.node (some Tryz.f71) (.node (some Tryz.f135) (.node (some Tryz.f263) .nil .nil) .nil) (.node (some Tryz.f199) .nil .nil)) (.node (some Tryz.f103) (.node (some Tryz.f167) .nil .nil) (.node (some Tryz.f231) .nil .nil))) (.node (some Tryz.f55) (.node (some Tryz.f87) (.node (some Tryz.f151) (.node (some Tryz.f279) .nil .nil) .nil) (.node (some Tryz.f215) .nil .nil)) (.node (some Tryz.f119) (.node (some Tryz.f183) .nil .nil) (.node (some Tryz.f247) .nil .nil))))) (.node (some Tryz.f11) (.node (some Tryz.f19) (.node (some Tryz.f35) (.node (some Tryz.f67) (.node (some Tryz.f131) (.node (some Tryz.f259) .nil .nil) .nil) (.node (some Tryz.f195) .nil .nil)) (.node (some Tryz.f99) (.node (some Tryz.f163) .nil .nil) (.node (some Tryz.f227) .nil .nil))) (.node (some Tryz.f51) (.node (some Tryz.f83) (.node (some Tryz.f147) (.node (some Tryz.f275) .nil .nil) .nil) (.node (some Tryz.f211) .nil .nil)) (.node (some Tryz.f115) (.node (some Tryz.f179) .nil .nil) (.node (some Tryz.f243) .nil .nil)))) (.node (some Tryz.f27) (.node (some Tryz.f43) (.node (some Tryz.f75) (.node (some Tryz.f139) (.node (some Tryz.f267) .nil .nil) .nil) (.node (some Tryz.f203) .nil .nil)) (.node (some Tryz.f107) (.node (some Tryz.f171) .nil .nil) (.node (some Tryz.f235) .nil .nil))) (.node (some Tryz.f59) (.node (some Tryz.f91) (.node (some Tryz.f155) (.node (some Tryz.f283) .nil .nil) .nil) (.node (some Tryz.f219) .nil .nil)) (.node (some Tryz.f123) (.node (some Tryz.f187) .nil .nil) (.node (some Tryz.f251) .nil .nil)))))) (.node (some Tryz.f5) (.node (some Tryz.f9) (.node (some Tryz.f17) (.node (some Tryz.f33) (.node (some Tryz.f65) (.node (some Tryz.f129) (.node (some Tryz.f257) .nil .nil) .nil) (.node (some Tryz.f193) .nil .nil)) (.node (some Tryz.f97) (.node (some Tryz.f161) .nil .nil) (.node (some Tryz.f225) .nil .nil))) (.node (some Tryz.f49) (.node (some Tryz.f81) (.node (some Tryz.f145) (.node (some Tryz.f273) .nil .nil) .nil) (.node (some Tryz.f209) .nil .nil)) (.node (some Tryz.f113) (.node (some Tryz.f177) .nil .nil) (.node (some Tryz.f241) .nil .nil)))) (.node (some Tryz.f25) (.node (some Tryz.f41) (.node (some Tryz.f73) (.node (some Tryz.f137) (.node (some Tryz.f265) .nil .nil) .nil) (.node (some Tryz.f201) .nil .nil)) (.node (some Tryz.f105) (.node (some Tryz.f169) .nil .nil) (.node (some Tryz.f233) .nil .nil))) (.node (some Tryz.f57) (.node (some Tryz.f89) (.node (some Tryz.f153) (.node (some Tryz.f281) .nil .nil) .nil) (.node (some Tryz.f217) .nil .nil)) (.node (some Tryz.f121) (.node (some Tryz.f185) .nil .nil) (.node (some Tryz.f249) .nil .nil))))) (.node (some Tryz.f13) (.node (some Tryz.f21) (.node (some Tryz.f37) (.node (some Tryz.f69) (.node (some Tryz.f133) (.node (some Tryz.f261) .nil .nil) .nil) (.node (some Tryz.f197) .nil .nil)) (.node (some Tryz.f101) (.node (some Tryz.f165) .nil .nil) (.node (some Tryz.f229) .nil .nil))) (.node (some Tryz.f53) (.node (some Tryz.f85) (.node (some Tryz.f149) (.node (some Tryz.f277) .nil .nil) .nil) (.node (some Tryz.f213) .nil .nil)) (.node (some Tryz.f117) (.node (some Tryz.f181) .nil .nil) (.node (some Tryz.f245) .nil .nil)))) (.node (some Tryz.f29) (.node (some Tryz.f45) (.node (some Tryz.f77) (.node (some Tryz.f141) (.node (some Tryz.f269) .nil .nil) .nil) (.node (some Tryz.f205) .nil .nil)) (.node (some Tryz.f109) (.node (some Tryz.f173) .nil .nil) (.node (some Tryz.f237) .nil .nil))) (.node (some Tryz.f61) (.node (some Tryz.f93) (.node (some Tryz.f157) .nil .nil) (.node (some Tryz.f221) .nil .nil)) (.node (some Tryz.f125) (.node (some Tryz.f189) .nil .nil) (.node (some Tryz.f253) .nil .nil))))))) (.node (some Tryz.f2) (.node (some Tryz.f4) (.node (some Tryz.f8) (.node (some Tryz.f16) (.node (some Tryz.f32) (.node (some Tryz.f64) (.node (some Tryz.f128) (.node (some Tryz.f256) .nil .nil) .nil) (.node (some Tryz.f192) .nil .nil)) (.node (some Tryz.f96) (.node (some Tryz.f160) .nil .nil) (.node (some Tryz.f224) .nil .nil))) (.node (some Tryz.f48) (.node (some Tryz.f80) (.node (some Tryz.f144) (.node (some Tryz.f272) .nil .nil) .nil) (.node (some Tryz.f208) .nil .nil)) (.node (some Tryz.f112) (.node (some Tryz.f176) .nil .nil) (.node (some Tryz.f240) .nil .nil)))) (.node (some Tryz.f24) (.node (some Tryz.f40) (.node (some Tryz.f72) (.node (some Tryz.f136) (.node (some Tryz.f264) .nil .nil) .nil) (.node (some Tryz.f200) .nil .nil)) (.node (some Tryz.f104) (.node (some Tryz.f168) .nil .nil) (.node (some Tryz.f232) .nil .nil))) (.node (some Tryz.f56) (.node (some Tryz.f88) (.node (some Tryz.f152) (.node (some Tryz.f280) .nil .nil) .nil) (.node (some Tryz.f216) .nil .nil)) (.node (some Tryz.f120) (.node (some Tryz.f184) .nil .nil) (.node (some Tryz.f248) .nil .nil))))) (.node (some Tryz.f12) (.node (some Tryz.f20) (.node (some Tryz.f36) (.node (some Tryz.f68) (.node (some Tryz.f132) (.node (some Tryz.f260) .nil .nil) .nil) (.node (some Tryz.f196) .nil .nil)) (.node (some Tryz.f100) (.node (some Tryz.f164) .nil .nil) (.node (some Tryz.f228) .nil .nil))) (.node (some Tryz.f52) (.node (some Tryz.f84) (.node (some Tryz.f148) (.node (some Tryz.f276) .nil .nil) .nil) (.node (some Tryz.f212) .nil .nil)) (.node (some Tryz.f116) (.node (some Tryz.f180) .nil .nil) (.node (some Tryz.f244) .nil .nil)))) (.node (some Tryz.f28) (.node (some Tryz.f44) (.node (some Tryz.f76) (.node (some Tryz.f140) (.node (some Tryz.f268) .nil .nil) .nil) (.node (some Tryz.f204) .nil .nil)) (.node (some Tryz.f108) (.node (some Tryz.f172) .nil .nil) (.node (some Tryz.f236) .nil .nil))) (.node (some Tryz.f60) (.node (some Tryz.f92) (.node (some Tryz.f156) (.node (some Tryz.f284) .nil .nil) .nil) (.node (some Tryz.f220) .nil .nil)) (.node (some Tryz.f124) (.node (some Tryz.f188) .nil .nil) (.node (some Tryz.f252) .nil .nil)))))) (.node (some Tryz.f6) (.node (some Tryz.f10) (.node (some Tryz.f18) (.node (some Tryz.f34) (.node (some Tryz.f66) (.node (some Tryz.f130) (.node (some Tryz.f258) .nil .nil) .nil) (.node (some Tryz.f194) .nil .nil)) (.node (some Tryz.f98) (.node (some Tryz.f162) .nil .nil) (.node (some Tryz.f226) .nil .nil))) (.node (some Tryz.f50) (.node (some Tryz.f82) (.node (some Tryz.f146) (.node (some Tryz.f274) .nil .nil) .nil) (.node (some Tryz.f210) .nil .nil)) (.node (some Tryz.f114) (.node (some Tryz.f178) .nil .nil) (.node (some Tryz.f242) .nil .nil)))) (.node (some Tryz.f26) (.node (some Tryz.f42) (.node (some Tryz.f74) (.node (some Tryz.f138) (.node (some Tryz.f266) .nil .nil) .nil) (.node (some Tryz.f202) .nil .nil)) (.node (some Tryz.f106) (.node (some Tryz.f170) .nil .nil) (.node (some Tryz.f234) .nil .nil))) (.node (some Tryz.f58) (.node (some Tryz.f90) (.node (some Tryz.f154) (.node (some Tryz.f282) .nil .nil) .nil) (.node (some Tryz.f218) .nil .nil)) (.node (some Tryz.f122) (.node (some Tryz.f186) .nil .nil) (.node (some Tryz.f250) .nil .nil))))) (.node (some Tryz.f14) (.node (some Tryz.f22) (.node (some Tryz.f38) (.node (some Tryz.f70) (.node (some Tryz.f134) (.node (some Tryz.f262) .nil .nil) .nil) (.node (some Tryz.f198) .nil .nil)) (.node (some Tryz.f102) (.node (some Tryz.f166) .nil .nil) (.node (some Tryz.f230) .nil .nil))) (.node (some Tryz.f54) (.node (some Tryz.f86) (.node (some Tryz.f150) (.node (some Tryz.f278) .nil .nil) .nil) (.node (some Tryz.f214) .nil .nil)) (.node (some Tryz.f118) (.node (some Tryz.f182) .nil .nil) (.node (some Tryz.f246) .nil .nil)))) (.node (some Tryz.f30) (.node (some Tryz.f46) (.node (some Tryz.f78) (.node (some Tryz.f142) (.node (some Tryz.f270) .nil .nil) .nil) (.node (some Tryz.f206) .nil .nil)) (.node (some Tryz.f110) (.node (some Tryz.f174) .nil .nil) (.node (some Tryz.f238) .nil .nil))) (.node (some Tryz.f62) (.node (some Tryz.f94) (.node (some Tryz.f158) .nil .nil) (.node (some Tryz.f222) .nil .nil)) (.node (some Tryz.f126) (.node (some Tryz.f190) .nil .nil) (.node (some Tryz.f254) .nil .nil))))))))
noncomputable def descOf (i : TypeInfo) : Option TypeDesc := match i.desc with | .named _ u => (match tyTr.get u with | some j => some j.desc | none => none) | d => some d
noncomputable def tysE (t : Nat) : Option TI :=
  match tyTr.get t with
  | none => none
  | some i => match descOf i with
    | none => none
    | some d => some ⟨i.size, i.bytes, d, (match i.zero with | some v => ofValue v | none => .sc .any), i.comparable⟩
def extE (f : Nat) : Option Nat :=
  bif Nat.beq f 81 then some 0 else bif Nat.beq f 166 then some 1 else bif Nat.beq f 212 then some 2 else bif Nat.beq f 130 then some 3 else bif Nat.beq f 238 then some 4 else none
noncomputable def envE (cons : Nat → List Contract) (invs : Nat → Nat → List Disj) : Env := { tys := tysE, fns := fun f => fnTr.get f, ext := extE, cons, invs, u8 := 5 }
theorem ty_list : (List.range 357).map (fun t => tyTr.get t) = Tryz.prog.types.toList.map some := by kernel_rfl
theorem ty_keys : tyTr.keysLt 1 0 357 = true := by kernel_rfl
theorem ty_size : Tryz.prog.types.size = 357 := by kernel_rfl
theorem fn_list : (List.range 285).map (fun t => fnTr.get t) = (Tryz.prog.funcs.toList.take 285).mapIdx (fun i f => bif Nat.ble 2 i then some f else none) := by kernel_rfl
theorem fn_keys : fnTr.keysLt 1 0 285 = true := by kernel_rfl
theorem fn_names : ((List.range 285).all fun t => match fnTr.get t with | some fn => !(fn.name == "runtime.NumGoroutine") | none => true) = true := by kernel_rfl
end
end Go.Hal
namespace Go.Hal
noncomputable section
open Go Go.Proofs
set_option maxRecDepth 100000
theorem ty_get {t : Nat} {i : TypeInfo} (h : tyTr.get t = some i) : Tryz.prog.info? t = some i := by
  have hlt : t < 357 := by have := Tr.keysLt_sound ty_keys h; omega
  have h1 : ((List.range 357).map fun t => tyTr.get t)[t]? = some (some i) := by simp [hlt, h]
  rw [ty_list] at h1
  rw [List.getElem?_map] at h1
  cases h2 : Tryz.prog.types.toList[t]? with
  | none => rw [h2] at h1; cases h1
  | some j =>
    rw [h2] at h1
    simp only [Option.map_some, Option.some.injEq] at h1
    subst h1
    rw [Array.getElem?_toList] at h2
    have hs : t < Tryz.prog.types.size := by rw [ty_size]; exact hlt
    unfold Tables.info?
    rw [if_pos hs]
    exact h2
theorem fn_get {f : Nat} {fn : Func} (h : fnTr.get f = some fn) : Tryz.prog.funcs[f]? = some fn ∧ (fn.name == "runtime.NumGoroutine") = false := by
  have hlt : f < 285 := by have := Tr.keysLt_sound fn_keys h; omega
  constructor
  · have h1 : ((List.range 285).map fun t => fnTr.get t)[f]? = some (some fn) := by simp [hlt, h]
    rw [fn_list, List.getElem?_mapIdx] at h1
    cases h2 : (Tryz.prog.funcs.toList.take 285)[f]? with
    | none => rw [h2] at h1; cases h1
    | some g =>
      rw [h2] at h1
      simp only [Option.map_some, Option.some.injEq] at h1
      cases hb : Nat.ble 2 f
      · rw [hb] at h1; cases h1
      · rw [hb] at h1
        simp only [cond_true, Option.some.injEq] at h1
        subst h1
        rw [List.getElem?_take_of_lt hlt, Array.getElem?_toList] at h2
        exact h2
  · have h1 := List.all_eq_true.1 fn_names f (List.mem_range.2 hlt)
    rw [h] at h1
    simpa using h1
theorem tys_ok : TyOk Tryz.prog tysE := by
  have key : ∀ t ti, tysE t = some ti → ∃ i d, tyTr.get t = some i ∧ descOf i = some d ∧ ti = ⟨i.size, i.bytes, d, (match i.zero with | some v => ofValue v | none => .sc .any), i.comparable⟩ := fun t ti h => by
    unfold tysE at h
    split at h
    · cases h
    · rename_i i hi
      split at h
      · cases h
      · rename_i d hd
        cases h
        exact ⟨i, d, hi, hd, rfl⟩
  refine ⟨fun t ti h => ?_, fun t ti h => ?_, fun t ti cs h hc => ?_⟩
  · obtain ⟨i, d, h1, h2, rfl⟩ := key t ti h
    exact ⟨i, ty_get h1, rfl, rfl, rfl⟩
  · obtain ⟨i, d, h1, h2, rfl⟩ := key t ti h
    have hi := ty_get h1
    unfold Program.underlying
    rw [hi]
    unfold descOf at h2
    obtain ⟨desc, _, _, _, _, _, _, _, _, _⟩ := i
    cases desc with
    | named nm u =>
      dsimp only at h2 ⊢
      split at h2
      · rename_i j hj
        cases h2
        rw [ty_get hj]; rfl
      · cases h2
    | _ => exact h2
  · obtain ⟨i, d, h1, h2, rfl⟩ := key t ti h
    cases hz : i.zero with
    | none => rw [hz] at hc; cases hc
    | some v =>
      exact ⟨i, v, ty_get h1, hz, fun η σ => ofValue_sound η σ v⟩
theorem ext_ok : ∀ f code, extE f = some code → ∀ (args : Array Value) (w : World), (callFunc f args).run Tryz.prog w = ((entryOf code args).run Tryz.prog w).andThen fun v w' => .ok (.value v) w' := by
  intro f code h args w
  unfold extE at h
  cases h1 : Nat.beq f 81
  · cases h2 : Nat.beq f 166
    · cases h3 : Nat.beq f 212
      · cases h4 : Nat.beq f 130
        · cases h5 : Nat.beq f 238
          · rw [h1, h2, h3, h4, h5] at h; cases h
          · rw [h1, h2, h3, h4, h5] at h
            cases h
            obtain rfl := (beq_iff _ _).1 h5
            exact run_callFunc_extern (fn := Tryz.f238) (by rfl) (by kernel_rfl) (by rfl) (by kernel_rfl) (by kernel_rfl) args w
        · rw [h1, h2, h3, h4] at h
          cases h
          obtain rfl := (beq_iff _ _).1 h4
          exact run_callFunc_extern (fn := Tryz.f130) (by rfl) (by kernel_rfl) (by rfl) (by kernel_rfl) (by kernel_rfl) args w
      · rw [h1, h2, h3] at h
        cases h
        obtain rfl := (beq_iff _ _).1 h3
        exact run_callFunc_extern (fn := Tryz.f212) (by rfl) (by kernel_rfl) (by rfl) (by kernel_rfl) (by kernel_rfl) args w
    · rw [h1, h2] at h
      cases h
      obtain rfl := (beq_iff _ _).1 h2
      exact run_callFunc_extern (fn := Tryz.f166) (by rfl) (by kernel_rfl) (by rfl) (by kernel_rfl) (by kernel_rfl) args w
  · rw [h1] at h
    cases h
    obtain rfl := (beq_iff _ _).1 h1
    exact run_callFunc_extern (fn := Tryz.f81) (by rfl) (by kernel_rfl) (by rfl) (by kernel_rfl) (by kernel_rfl) args w
theorem u8_ok : U8Ok Tryz.prog 5 := ⟨by decide, by kernel_rfl⟩
theorem env_ok (cons : Nat → List Contract) (invs : Nat → Nat → List Disj) : EnvOk Tryz.prog (envE cons invs) := ⟨tys_ok, u8_ok, fun _ _ h => fn_get h, ext_ok⟩
theorem mixed : Tryz.prog.follows .mixedOrders = true := by kernel_rfl
/-- a contract that the kernel has run holds -/
theorem con_ok {cons : Nat → List Contract} {invs : Nat → Nat → List Disj} (hK : ∀ g, ∀ c ∈ cons g, CSound Tryz.prog g c ∧ c.wf = true) {fuel f : Nat} {c : Contract} (h : checkContract (envE cons invs) fuel f c = .ok ()) : CSound Tryz.prog f c ∧ c.wf = true :=
  ⟨checkContract_sound (env_ok cons invs) (draw_sound (env_ok cons invs) mixed) hK h, checkContract_wf h⟩
end
end Go.Hal
namespace Go.Hal
open Go
noncomputable section

/-! Known numbers. -/
def intF (k : IntKind) (r : Nat) : Option AV :=
  Nat.rec (motive := fun _ => Option AV) (some (.sc (.int k ⟨.ofNat 0, []⟩))) (fun m _ => some (.sc (.int k ⟨.ofNat (Nat.succ m), []⟩))) r
def capF (k : IntKind) (lim r : Nat) : Option AV := Bool.rec (motive := fun _ => Option AV) none (intF k r) (Nat.blt r lim)
/-- a number of a kind: itself, if it is one; else, of a kind without a sign, its rest -/
def wrapF (k : IntKind) : Nat → Option AV :=
  IntKind.rec (motive := fun _ => Nat → Option AV) (capF .i8 128) (capF .i16 32768) (capF .i32 2147483648) (capF .i64 9223372036854775808)
    (fun r => intF .u8 (Nat.mod r 256)) (fun r => intF .u16 (Nat.mod r 65536)) (fun r => intF .u32 (Nat.mod r 4294967296)) (fun r => intF .u64 (Nat.mod r 18446744073709551616)) k
def subF (k : IntKind) : Nat → Nat → Option AV :=
  IntKind.rec (motive := fun _ => Nat → Nat → Option AV) (fun _ _ => none) (fun _ _ => none) (fun _ _ => none) (fun x y => Bool.rec (motive := fun _ => Option AV) none (capF .i64 9223372036854775808 (Nat.sub x y)) (Nat.ble y x))
    (fun x y => Bool.rec (motive := fun _ => Option AV) none (intF .u8 (Nat.mod (Nat.sub (Nat.add x 256) y) 256)) (Nat.ble y 256)) (fun _ _ => none)
    (fun x y => Bool.rec (motive := fun _ => Option AV) none (intF .u32 (Nat.mod (Nat.sub (Nat.add x 4294967296) y) 4294967296)) (Nat.ble y 4294967296))
    (fun x y => Bool.rec (motive := fun _ => Option AV) none (intF .u64 (Nat.mod (Nat.sub (Nat.add x 18446744073709551616) y) 18446744073709551616)) (Nat.ble y 18446744073709551616)) k
def bitsF (k : IntKind) : Nat := IntKind.rec (motive := fun _ => Nat) 8 16 32 64 8 16 32 64 k
/-- both below a kind's reach -/
def bothF (k : IntKind) (_x _y : Nat) (r : Option AV) : Option AV :=
  IntKind.rec (motive := fun _ => Option AV) none none none none r r r r k
def boolF (b : Bool) : Option AV := Bool.rec (motive := fun _ => Option AV) (some (.sc (.bool (.known false)))) (some (.sc (.bool (.known true)))) b
def kindsF (j k : IntKind) (r : Option AV) : Option AV := Bool.rec (motive := fun _ => Option AV) none r (keq j k)
def shF (k : IntKind) (y : Nat) : Nat := Nat.pow 2 (Bool.rec (motive := fun _ => Nat) (bitsF k) y (Nat.ble y (bitsF k)))
def binF (op : BinOp) : IntKind → IntKind → Nat → Nat → Option AV :=
  BinOp.rec (motive := fun _ => IntKind → IntKind → Nat → Nat → Option AV)
    (fun k j x y => kindsF k j (wrapF k (Nat.add x y)))
    (fun k j x y => kindsF k j (subF k x y))
    (fun k j x y => kindsF k j (wrapF k (Nat.mul x y)))
    (fun k j x y => kindsF k j (Nat.rec (motive := fun _ => Option AV) none (fun _ _ => wrapF k (Nat.div x y)) y))
    (fun k j x y => kindsF k j (Nat.rec (motive := fun _ => Option AV) none (fun _ _ => wrapF k (Nat.mod x y)) y))
    (fun k j x y => kindsF k j (bothF k x y (wrapF k (Nat.land x y))))
    (fun k j x y => kindsF k j (bothF k x y (wrapF k (Nat.lor x y))))
    (fun k j x y => kindsF k j (bothF k x y (wrapF k (Nat.xor x y))))
    (fun k _ x y => wrapF k (Nat.mul x (shF k y)))
    (fun k _ x y => wrapF k (Nat.div x (shF k y)))
    (fun _ _ _ _ => none)
    (fun k j x y => kindsF k j (boolF (Nat.beq x y)))
    (fun k j x y => kindsF k j (Bool.rec (motive := fun _ => Option AV) (boolF true) (boolF false) (Nat.beq x y)))
    (fun k j x y => kindsF k j (boolF (Nat.blt x y)))
    (fun k j x y => kindsF k j (boolF (Nat.ble x y)))
    (fun k j x y => kindsF k j (boolF (Nat.blt y x)))
    (fun k j x y => kindsF k j (boolF (Nat.ble y x))) op
/-! Operands. -/
def evK (x : Operand) : Tr AV → (AV → Option AV) → Option AV :=
  Operand.rec (motive := fun _ => Tr AV → (AV → Option AV) → Option AV) (fun t T f => Option.rec (motive := fun _ => Option AV) none f (T.get t)) (fun v _ f => f (ofValue v)) (fun _ _ _ => none) (fun _ _ _ => none) x
/-- of a known number of at least 0 -/
def linF (e : Lin) (f : Nat → Option AV) : Option AV :=
  Lin.rec (motive := fun _ => Option AV) (fun c ts => List.rec (motive := fun _ => Option AV) (Int.rec (motive := fun _ => Option AV) f (fun _ => none) c) (fun _ _ _ => none) ts) e
def intK (s : SV) : (IntKind → Nat → Option AV) → Option AV :=
  SV.rec (motive := fun _ => (IntKind → Nat → Option AV) → Option AV)
    (fun k e f => linF e (f k))
    (fun _ => fun _ => none)
    (fun _ => fun _ => none)
    (fun _ _ => fun _ => none)
    (fun _ => none)
    (fun _ _ _ _ => fun _ => none)
    (fun _ => none)
    (fun _ => fun _ => none)
    (fun _ => fun _ => none)
    (fun _ => none)
    (fun _ _ => fun _ => none)
    (fun _ => none)
    (fun _ => none)
    (fun _ _ _ => fun _ => none)
    (fun _ => none)
    (fun _ => none) s
def ptrK (s : SV) : (Nat → Nat → Option AV) → Option AV :=
  SV.rec (motive := fun _ => (Nat → Nat → Option AV) → Option AV)
    (fun _ _ => fun _ => none)
    (fun _ => fun _ => none)
    (fun _ => fun _ => none)
    (fun b e f => linF e (f b))
    (fun _ => none)
    (fun _ _ _ _ => fun _ => none)
    (fun _ => none)
    (fun _ => fun _ => none)
    (fun _ => fun _ => none)
    (fun _ => none)
    (fun _ _ => fun _ => none)
    (fun _ => none)
    (fun _ => none)
    (fun _ _ _ => fun _ => none)
    (fun _ => none)
    (fun _ => none) s
def scK (v : AV) (f : SV → Option AV) : Option AV := AV.rec (motive := fun _ => Option AV) f (fun _ => none) (fun _ => none) v
def inK' (x : Operand) (T : Tr AV) (f : IntKind → Nat → Option AV) : Option AV := evK x T fun v => scK v fun s => intK s f
def atK (x : Operand) (T : Tr AV) (f : Nat → Nat → Option AV) : Option AV := evK x T fun v => scK v fun s => ptrK s f
def wfF (v : AV) (n nb : Nat) : Bool :=
  AV.rec (motive := fun _ => Bool) (fun s => SV.rec (motive := fun _ => Bool)
      (fun _ e => Lin.rec (motive := fun _ => Bool) (fun _ ts => List.rec (motive := fun _ => Bool) true (fun _ _ _ => AV.wf n nb v) ts) e)
      (fun _ => AV.wf n nb v)
      (fun _ => AV.wf n nb v)
      (fun _ _ => AV.wf n nb v)
      (AV.wf n nb v)
      (fun _ _ _ _ => AV.wf n nb v)
      (AV.wf n nb v)
      (fun _ => AV.wf n nb v)
      (fun _ => AV.wf n nb v)
      (AV.wf n nb v)
      (fun _ _ => AV.wf n nb v)
      (AV.wf n nb v)
      (AV.wf n nb v)
      (fun _ _ _ => AV.wf n nb v)
      (AV.wf n nb v)
      (AV.wf n nb v) s)
    (fun _ => AV.wf n nb v) (fun _ => AV.wf n nb v) v
def okF (b : Bool) (r : Option AV) : Option AV := Bool.rec (motive := fun _ => Option AV) none r b
/-- a place in a row -/
def placeF (e : Option TI) (b o i : Nat) (es : Option Nat) : Option AV :=
  Option.rec (motive := fun _ => Option AV) none (fun ei => TI.rec (motive := fun _ => Option AV) (fun size _ _ _ _ =>
    Option.rec (motive := fun _ => Option AV) (some (.sc (.ptr b ⟨.ofNat (Nat.add o (Nat.mul size i)), []⟩))) (fun es => okF (Nat.beq size es) (some (.sc (.ptr b ⟨.ofNat (Nat.add o (Nat.mul size i)), []⟩)))) es) ei) e
def arrK (d : TypeDesc) (f : Nat → TypeId → Option AV) (g : TypeId → Option AV) : Option AV :=
  match d with
  | .array n e => f n e
  | .slice e => g e
  | _ => none
def kindK (d : TypeDesc) (f : IntKind → Option AV) : Option AV :=
  match d with
  | .int k => f k
  | _ => none
def descK (o : Option TI) (f : TypeDesc → Option AV) : Option AV := Option.rec (motive := fun _ => Option AV) none (fun ti => TI.rec (motive := fun _ => Option AV) (fun _ _ d _ _ => f d) ti) o
/-- an operation of known numbers: what comes of it -/
def fast1 (op : Op) : Env → Tr AV → Nat → Nat → Option AV :=
  Op.rec (motive := fun _ => Env → Tr AV → Nat → Nat → Option AV)
    (fun x _ T n nb => evK x T fun v => okF (wfF v n nb) (some v))
    (fun x _ T n nb => evK x T fun v => okF (wfF v n nb) (some v))
    (fun _ _ _ _ _ _ _ => none)
    (fun _ _ _ _ _ => none)
    (fun _ _ _ _ _ _ => none)
    (fun _ _ _ _ _ _ => none)
    (fun _ _ _ _ _ _ _ => none)
    (fun _ _ _ _ _ _ _ _ => none)
    (fun _ _ _ _ _ _ => none)
    (fun _ _ _ _ _ _ _ => none)
    (fun _ _ _ _ _ => none)
    (fun _ _ _ _ _ => none)
    (fun x _ T _ nb => atK x T fun b o => okF (Nat.blt b nb) (some (.sc (.ptr b ⟨.ofNat o, []⟩))))
    (fun op _ x y _ _ T _ _ => inK' x T fun k a => inK' y T fun j b => binF op k j a b)
    (fun _ _ _ _ _ _ _ => none)
    (fun s d x env T _ _ => inK' x T fun _ a => descK (env.tys s) fun _ => descK (env.tys d) fun dd => kindK dd fun k => wrapF k a)
    (fun _ _ _ _ _ _ => none)
    (fun _ _ _ _ _ _ => none)
    (fun _ _ _ _ _ _ _ => none)
    (fun _ _ _ _ _ _ => none)
    (fun _ _ _ _ _ _ => none)
    (fun _ _ _ _ _ _ _ => none)
    (fun _ _ _ _ _ _ _ _ _ => none)
    (fun _ _ _ _ _ _ _ => none)
    (fun _ _ _ _ _ _ _ => none)
    (fun t x i env T _ nb => descK (env.tys t) fun d => arrK d (fun n e => atK x T fun b o => inK' i T fun _ j => okF (Nat.blt b nb) (okF (Nat.blt j n) (placeF (env.tys e) b o j none)))
      (fun _ => none))
    (fun _ _ _ _ _ _ _ => none)
    (fun _ _ _ _ _ _ _ _ => none)
    (fun _ _ _ _ _ _ _ _ => none)
    (fun _ _ _ _ _ _ _ => none)
    (fun _ _ _ _ _ _ _ _ => none)
    (fun _ _ _ _ _ _ => none)
    (fun _ _ _ _ _ _ => none)
    (fun _ _ _ _ _ => none)
    (fun _ _ _ _ _ _ _ _ => none)
    (fun _ _ _ _ _ _ => none)
    (fun _ _ _ _ _ => none)
    (fun _ _ _ _ _ => none)
    (fun _ _ _ _ _ => none)
    (fun _ _ _ _ _ => none)
    (fun _ _ _ _ _ _ => none)
    (fun _ _ _ _ _ _ _ => none)
    (fun _ _ _ _ _ _ => none) op
/-! Loads at known places. -/
def cgetF (l : List SV) : Nat → Option SV :=
  List.rec (motive := fun _ => Nat → Option SV) (fun _ => none) (fun a _ ih n => Nat.rec (motive := fun _ => Option SV) (some a) (fun m _ => ih m) n) l
abbrev Look := Option (AV × Option (Nat × Nat × Nat))
def evL (x : Operand) : Tr AV → (AV → Look) → Look :=
  Operand.rec (motive := fun _ => Tr AV → (AV → Look) → Look) (fun t T f => Option.rec (motive := fun _ => Look) none f (T.get t)) (fun v _ f => f (ofValue v)) (fun _ _ _ => none) (fun _ _ _ => none) x
def linL (e : Lin) (f : Nat → Look) : Look :=
  Lin.rec (motive := fun _ => Look) (fun c ts => List.rec (motive := fun _ => Look) (Int.rec (motive := fun _ => Look) f (fun _ => none) c) (fun _ _ _ => none) ts) e
def ptrL (s : SV) : (Nat → Nat → Look) → Look :=
  SV.rec (motive := fun _ => (Nat → Nat → Look) → Look)
    (fun _ _ => fun _ => none)
    (fun _ => fun _ => none)
    (fun _ => fun _ => none)
    (fun b e f => linL e (f b))
    (fun _ => none)
    (fun _ _ _ _ => fun _ => none)
    (fun _ => none)
    (fun _ => fun _ => none)
    (fun _ => fun _ => none)
    (fun _ => none)
    (fun _ _ => fun _ => none)
    (fun _ => none)
    (fun _ => none)
    (fun _ _ _ => fun _ => none)
    (fun _ => none)
    (fun _ => none) s
def scL (v : AV) (f : SV → Look) : Look := AV.rec (motive := fun _ => Look) f (fun _ => none) (fun _ => none) v
def cellL (x : ABlk) (f : List SV → Look) : Look :=
  ABlk.rec (motive := fun _ => Look)
    (fun _ cs => f cs)
    (fun _ _ _ _ => none)
    (fun _ _ => none)
    (fun _ _ => none)
    (fun _ => none)
    (fun _ => none)
    (none) x
def loadF (env : Env) (t : TypeId) (a : Operand) (T : Tr AV) (H : Tr ABlk) (n nb : Nat) : Look :=
  evL a T fun v => scL v fun s => ptrL s fun b o =>
    Bool.rec (motive := fun _ => Look) none
      (Option.rec (motive := fun _ => Look) none (fun ti => Bool.rec (motive := fun _ => Look)
        (Option.rec (motive := fun _ => Look) none (fun x => cellL x fun cs => Option.rec (motive := fun _ => Look) none
          (fun s => Bool.rec (motive := fun _ => Look) none (some (.sc s, some (b, o, 1))) (wfF (.sc s) n nb)) (cgetF cs o)) (H.get b))
        none (isAggD ti.desc)) (env.tys t)) (Nat.blt b nb)
def fast2 (op : Op) : Env → Tr AV → Tr ABlk → Nat → Nat → Look :=
  Op.rec (motive := fun _ => Env → Tr AV → Tr ABlk → Nat → Nat → Look)
    (fun _ _ _ _ _ _ => none)
    (fun _ _ _ _ _ _ => none)
    (fun _ _ _ _ _ _ _ _ => none)
    (fun _ _ _ _ _ _ => none)
    (fun _ _ _ _ _ _ _ => none)
    (fun _ _ _ _ _ _ _ => none)
    (fun _ _ _ _ _ _ _ _ => none)
    (fun _ _ _ _ _ _ _ _ _ => none)
    (fun t a env T H n nb => loadF env t a T H n nb)
    (fun _ _ _ _ _ _ _ _ => none)
    (fun _ _ _ _ _ _ => none)
    (fun _ _ _ _ _ _ => none)
    (fun _ _ _ _ _ _ => none)
    (fun _ _ _ _ _ _ _ _ _ _ => none)
    (fun _ _ _ _ _ _ _ _ => none)
    (fun _ _ _ _ _ _ _ _ => none)
    (fun _ _ _ _ _ _ _ => none)
    (fun _ _ _ _ _ _ _ => none)
    (fun _ _ _ _ _ _ _ _ => none)
    (fun _ _ _ _ _ _ _ => none)
    (fun _ _ _ _ _ _ _ => none)
    (fun _ _ _ _ _ _ _ _ => none)
    (fun _ _ _ _ _ _ _ _ _ _ => none)
    (fun _ _ _ _ _ _ _ _ => none)
    (fun _ _ _ _ _ _ _ _ => none)
    (fun _ _ _ _ _ _ _ _ => none)
    (fun _ _ _ _ _ _ _ _ => none)
    (fun _ _ _ _ _ _ _ _ _ => none)
    (fun _ _ _ _ _ _ _ _ _ => none)
    (fun _ _ _ _ _ _ _ _ => none)
    (fun _ _ _ _ _ _ _ _ _ => none)
    (fun _ _ _ _ _ _ _ => none)
    (fun _ _ _ _ _ _ _ => none)
    (fun _ _ _ _ _ _ => none)
    (fun _ _ _ _ _ _ _ _ _ => none)
    (fun _ _ _ _ _ _ _ => none)
    (fun _ _ _ _ _ _ => none)
    (fun _ _ _ _ _ _ => none)
    (fun _ _ _ _ _ _ => none)
    (fun _ _ _ _ _ _ => none)
    (fun _ _ _ _ _ _ _ => none)
    (fun _ _ _ _ _ _ _ _ => none)
    (fun _ _ _ _ _ _ _ => none) op
def fastO (op : Op) (env : Env) (T : Tr AV) (H : Tr ABlk) (n nb : Nat) : Look :=
  Option.rec (motive := fun _ => Look) (fast2 op env T H n nb) (fun v => some (v, none)) (fast1 op env T n nb)

/-! Regions. -/
def slowO (env : Env) (callF : CallF) (ops : Array Oper) (o : Oper) (k : St → R (List St)) (st : St) : R (List St) :=
  (wantedA ops o st).bind fun ws =>
    R.flatL (fun (ws : Bool × St) =>
      bif ws.1 then
        (sayAt o.pos (execA env callF ws.2 o.op)).bind fun us => R.flatL (fun (u : Upd) =>
          (putDst ws.2 o.dst u.val).bind fun t => forceN u.nb fun nb => forceN st.nt fun nt => k ⟨u.ctx, t, u.heap, nb, nt⟩) us
      else (putDst ws.2 o.dst undefV).bind fun t => k ⟨ws.2.ctx, t, ws.2.heap, ws.2.nb, st.nt⟩) ws
def putF {β : Type} (d : Option Nat) (T : Tr AV) (nt : Nat) (v : AV) (k : Tr AV → R β) : R β :=
  Option.rec (motive := fun _ => R β) (k T) (fun d => Bool.rec (motive := fun _ => R β) (.err "a slot beyond") (k (T.set v d)) (Nat.blt d nt)) d
def runOpsF (env : Env) (callF : CallF) (ops : Array Oper) (l : List Oper) : St → R (List St) :=
  List.rec (motive := fun _ => St → R (List St)) (fun st => .ok [st])
    (fun o _ ih st => St.rec (motive := fun _ => R (List St)) (fun Φ T H nb nt => Oper.rec (motive := fun _ => R (List St)) (fun dst op _ _ _ guard =>
      Option.rec (motive := fun _ => R (List St))
        (Option.rec (motive := fun _ => R (List St)) (slowO env callF ops o ih ⟨Φ, T, H, nb, nt⟩)
          (fun p => Prod.rec (motive := fun _ => R (List St)) (fun v _ => putF dst T nt v fun T' => ih ⟨Φ, T', H, nb, nt⟩) p) (fastO op env T H Φ.n nb))
        (fun _ => slowO env callF ops o ih ⟨Φ, T, H, nb, nt⟩) guard) o) st) l
def slowOD (env : Env) (callF : CallF) (ops : Array Oper) (o : Oper) (k : St → List Tc → R (List (St × List Tc))) (st : St) (tr : List Tc) : R (List (St × List Tc)) :=
  bif slotsWf st (tmpsOf ops o) then
    (wantedA ops o st).bind fun ws =>
    R.flatL (fun (ws : Bool × St) =>
      bif ws.1 then
        (sayAt o.pos (execD env callF ws.2 o.op)).bind fun us => R.flatL (fun (u : Upd × Tc) =>
          (putDst ws.2 o.dst u.1.val).bind fun t => forceN u.1.nb fun nb => forceN st.nt fun nt => k ⟨u.1.ctx, t, u.1.heap, nb, nt⟩ (u.2 :: tr)) us
      else (putDst ws.2 o.dst undefV).bind fun t => k ⟨ws.2.ctx, t, ws.2.heap, ws.2.nb, st.nt⟩ (⟨[], none, []⟩ :: tr)) ws
    else .err "drawn: a slot is not settled"
def runOpsDF (env : Env) (callF : CallF) (ops : Array Oper) (l : List Oper) : St → List Tc → R (List (St × List Tc)) :=
  List.rec (motive := fun _ => St → List Tc → R (List (St × List Tc))) (fun st tr => .ok [(st, tr)])
    (fun o _ ih st tr => St.rec (motive := fun _ => R (List (St × List Tc))) (fun Φ T H nb nt => Oper.rec (motive := fun _ => R (List (St × List Tc))) (fun dst op _ _ _ guard =>
      Option.rec (motive := fun _ => R (List (St × List Tc)))
        (Option.rec (motive := fun _ => R (List (St × List Tc))) (slowOD env callF ops o ih ⟨Φ, T, H, nb, nt⟩ tr)
          (fun p => Prod.rec (motive := fun _ => R (List (St × List Tc))) (fun v ls => putF dst T nt v fun T' => ih ⟨Φ, T', H, nb, nt⟩ (⟨[], ls, []⟩ :: tr)) p) (fastO op env T H Φ.n nb))
        (fun _ => slowOD env callF ops o ih ⟨Φ, T, H, nb, nt⟩ tr) guard) o) st) l
def runRegionF (env : Env) (callF : CallF) (ops : Array Oper) (drawn : Bool) (st : St) : R (List St) :=
  bif drawn then
    bif statOk ops (zipM ops.toList.reverse (masks ops.toList [] 0)) then
      (runOpsDF env callF ops ops.toList st []).bind fun l => sayAt (match ops.toList with | o :: _ => o.pos | [] => "") (drawsOk (zipM ops.toList.reverse (masks ops.toList [] 0)) l)
    else .err "a region's slots"
  else runOpsF env callF ops ops.toList st

/-! Code. -/
abbrev RunT := Nat → Nat → Code → St → R Es
def bindR (x : R Es) (f : Es → R Es) : R Es := R.rec (motive := fun _ => R Es) (fun s => .err s) f x
def andThenF (f : St → R Es) (l : Es) : R Es :=
  List.rec (motive := fun _ => R Es) (.ok []) (fun p _ ih => Prod.rec (motive := fun _ => R Es) (fun e s =>
    AExit.rec (motive := fun _ => R Es) (bindR (f s) fun a => bindR ih fun l => .ok (a ++ l)) (fun i => bindR ih fun l => .ok ((.exit i, s) :: l)) (bindR ih fun l => .ok ((.ret, s) :: l)) e) p) l
def callIn (env : Env) (ih : RunT) : CallF := fun g args S =>
  match env.cons g with
  | con :: more => tryAll (con :: more) args S
  | [] => match env.fns g with
    | none => .err "call: no function"
    | some fn => match fn.body with
      | none => .err "call: no body"
      | some body => bif Nat.ble (llenG args) fn.ntmps then
          (sayAt fn.name (ih g 0 body (enterSt fn args S.ctx S.heap S.nb))).bind (endsOf env fn.results.toList)
        else .err "call: more arguments than slots"
/-- a test that is known -/
def knownB (v : AV) (yes no slow : R Es) : R Es :=
  AV.rec (motive := fun _ => R Es) (fun s => SV.rec (motive := fun _ => R Es)
      (fun _ _ => slow)
      (fun b => ABool.rec (motive := fun _ => R Es) (fun b => Bool.rec (motive := fun _ => R Es) no yes b) (fun _ => slow) (fun _ => slow) (fun _ => slow) b)
      (fun _ => slow)
      (fun _ _ => slow)
      (slow)
      (fun _ _ _ _ => slow)
      (slow)
      (fun _ => slow)
      (fun _ => slow)
      (slow)
      (fun _ _ => slow)
      (slow)
      (slow)
      (fun _ _ _ => slow)
      (slow)
      (slow) s) (fun _ => slow) (fun _ => slow) v
def condF (ih : RunT) (f cur : Nat) (x : Operand) (a b : Code) (st : St) : R Es :=
  match evalA st x with
  | .sc (.bool v) => (split st.ctx v).bind (bothWays (fun t s => ih f cur (bif t then a else b) s) st)
  | _ => .err "cond: no bool"
def loopF (env : Env) (ih : RunT) (f cur : Nat) (body : Code) (st : St) : R Es :=
  match env.invs f cur with
  | [] => bindR (ih f cur body st) (andThenF (ih f cur (.loop body)))
  | ds =>
    (R.mapL (mkGen st (dstsC body [])) ds).bind fun gens =>
    match tryGens st st none gens 0 with
    | .err s => .err ("loop " ++ toString f ++ "." ++ toString cur ++ " entry: " ++ s)
    | .ok i0 => loopGo (fun i =>
      match gens[i]? with
      | none => .err "loop: no such"
      | some γ =>
        bif γ.g.ctx.ge0 γ.meas && γ.meas.lt γ.g.ctx.n then
          (ih f cur body γ.g).bind fun outs => sayAt ("loop " ++ toString f ++ "." ++ toString cur ++ " round: ") (rounds st gens γ.meas outs)
        else .err "loop: the measure is not shown at least 0") 100 [i0] []
def codeF (c : Code) : Env → RunT → Nat → Nat → St → R Es :=
  Code.rec (motive := fun _ => Env → RunT → Nat → Nat → St → R Es)
    (fun _ _ _ _ st => .ok [(.normal, st)])
    (fun _ ops drawn env ih _ _ st => (runRegionF env (callIn env ih) ops drawn st).bind fun l => .ok (normals l))
    (fun a b _ _ _ ih f cur st => bindR (ih f cur a st) (andThenF (ih f cur b)))
    (fun x a b _ _ _ ih f cur st => knownB (evalA st x) (ih f cur a st) (ih f cur b st) (condF ih f cur x a b st))
    (fun id a _ _ ih f _ st => bindR (ih f id a st) fun l => .ok (unblock id l))
    (fun body _ env ih f cur st => loopF env ih f cur body st)
    (fun _ _ _ _ _ _ _ _ _ _ _ => .err "code: not covered")
    (fun id _ _ _ _ st => .ok [(.exit id, st)])
    (fun _ _ _ _ _ _ _ => .err "code: not covered")
    (fun _ _ _ _ _ st => .ok [(.normal, st)])
    (fun _ _ _ _ _ _ => .err "code: not covered")
    (fun _ _ _ _ st => .ok [(.ret, st)])
    (fun _ _ _ _ _ _ => .err "code: not covered") c
def runF (env : Env) (fuel : Nat) : RunT :=
  Nat.rec (motive := fun _ => RunT) (fun _ _ _ _ => .err "fuel") (fun _ ih f cur c st => codeF c env ih f cur st) fuel
def checkF (env : Env) (fuel f : Nat) (c : Contract) : R Unit :=
  match env.fns f with
  | none => .err "no function"
  | some fn => match fn.body with
    | none => .err "no body"
    | some body =>
      bif Nat.ble (llenG c.args) fn.ntmps && c.wf then
        (runF env fuel f 0 body (enterSt fn c.args c.ctx c.heap c.nb)).bind fun outs =>
        (endsOf env fn.results.toList outs).bind (fitsAll c)
      else .err "more arguments than slots"
end
end Go.Hal
namespace Go.Hal
noncomputable section
open Go

/-! Numbers. -/
theorem intF_eq (k : IntKind) (r : Nat) : intF k r = some (.sc (.int k ⟨.ofNat r, []⟩)) := by cases r <;> rfl
theorem capF_ok {k : IntKind} {lim r : Nat} {v : AV} (h : capF k lim r = some v) : r < lim ∧ v = .sc (.int k ⟨.ofNat r, []⟩) := by
  unfold capF at h
  cases hb : Nat.blt r lim
  · rw [hb] at h; cases h
  · rw [hb] at h
    have h : intF k r = some v := h
    rw [intF_eq] at h
    cases h
    exact ⟨(blt_iff _ _).1 hb, rfl⟩
theorem wrapU {k : IntKind} (hk : k.signed = false) (r : Nat) : k.wrap (.ofNat r) = .ofNat (r % 2 ^ k.bits) := by
  unfold IntKind.wrap
  simp only [hk, Bool.false_and, Bool.false_eq_true, if_false, Int.ofNat_eq_natCast]
  have h2 : ((2 : Int) ^ k.bits) = ((2 ^ k.bits : Nat) : Int) := by simp
  rw [h2]; exact (Int.natCast_emod _ _).symm
theorem wrapF_ok {k : IntKind} {r : Nat} {v : AV} (h : wrapF k r = some v) : v = .sc (.int k (.k (k.wrap (.ofNat r)))) := by
  have low : ∀ {k : IntKind} {lim : Nat}, capF k lim r = some v → (∀ r : Nat, r < lim → inK k (.ofNat r)) → v = .sc (.int k (.k (k.wrap (.ofNat r)))) := fun h hi => by
    obtain ⟨h1, rfl⟩ := capF_ok h
    rw [wrap_id (hi r h1)]; rfl
  cases k
  case i8 => exact low (show capF .i8 128 r = some v from h) fun r hr => by simp only [inK, kmin, kmax, Int.ofNat_eq_natCast]; omega
  case i16 => exact low (show capF .i16 32768 r = some v from h) fun r hr => by simp only [inK, kmin, kmax, Int.ofNat_eq_natCast]; omega
  case i32 => exact low (show capF .i32 2147483648 r = some v from h) fun r hr => by simp only [inK, kmin, kmax, Int.ofNat_eq_natCast]; omega
  case i64 => exact low (show capF .i64 9223372036854775808 r = some v from h) fun r hr => by simp only [inK, kmin, kmax, Int.ofNat_eq_natCast]; omega
  case u8 =>
    have h : intF .u8 (Nat.mod r 256) = some v := h
    rw [intF_eq] at h; cases h
    rw [wrapU rfl]; rfl
  case u16 =>
    have h : intF .u16 (Nat.mod r 65536) = some v := h
    rw [intF_eq] at h; cases h
    rw [wrapU rfl]; rfl
  case u32 =>
    have h : intF .u32 (Nat.mod r 4294967296) = some v := h
    rw [intF_eq] at h; cases h
    rw [wrapU rfl]; rfl
  case u64 =>
    have h : intF .u64 (Nat.mod r 18446744073709551616) = some v := h
    rw [intF_eq] at h; cases h
    rw [wrapU rfl]; rfl
theorem okF_ok {b : Bool} {r : Option AV} {v : AV} (h : okF b r = some v) : b = true ∧ r = some v := by
  cases b
  · cases h
  · exact ⟨rfl, h⟩
theorem wrap_sub {k : IntKind} (hk : k.signed = false) {x y : Nat} (hy : y ≤ 2 ^ k.bits) : k.wrap (.ofNat x - .ofNat y) = .ofNat ((x + 2 ^ k.bits - y) % 2 ^ k.bits) := by
  have h1 : k.wrap (.ofNat x - .ofNat y) = k.wrap (.ofNat (x + 2 ^ k.bits - y)) := by
    unfold IntKind.wrap
    have : ((2 : Int) ^ k.bits) = ((2 ^ k.bits : Nat) : Int) := by simp
    have e : (Int.ofNat (x + 2 ^ k.bits - y)) = (.ofNat x - .ofNat y) + (2 : Int) ^ k.bits := by
      rw [this]; simp only [Int.ofNat_eq_natCast]; omega
    rw [e, Int.add_emod_right]
  rw [h1, wrapU hk]
theorem subF_ok {k : IntKind} {x y : Nat} {v : AV} (h : subF k x y = some v) : v = .sc (.int k (.k (k.wrap (.ofNat x - .ofNat y)))) := by
  have un : ∀ {k : IntKind} {lim : Nat}, k.signed = false → lim = 2 ^ k.bits → okF (Nat.ble y lim) (intF k (Nat.mod (Nat.sub (Nat.add x lim) y) lim)) = some v → v = .sc (.int k (.k (k.wrap (.ofNat x - .ofNat y)))) := fun hk hl h => by
    obtain ⟨h1, h2⟩ := okF_ok h
    rw [ble_iff] at h1
    rw [intF_eq] at h2
    cases h2
    subst hl
    rw [wrap_sub hk h1]; rfl
  cases k
  case i8 => cases h
  case i16 => cases h
  case i32 => cases h
  case u16 => cases h
  case i64 =>
    obtain ⟨h1, h2⟩ := okF_ok (show okF (Nat.ble y x) (capF .i64 9223372036854775808 (Nat.sub x y)) = some v from h)
    rw [ble_iff] at h1
    obtain ⟨h3, rfl⟩ := capF_ok h2
    have h3 : x - y < 9223372036854775808 := h3
    have e : (Int.ofNat x - Int.ofNat y) = ((x - y : Nat) : Int) := by simp only [Int.ofNat_eq_natCast]; omega
    rw [e, wrap_id (by simp only [inK, kmin, kmax]; omega)]; rfl
  case u8 => exact un rfl rfl h
  case u32 => exact un rfl rfl h
  case u64 => exact un rfl rfl h
theorem kindsF_ok {j k : IntKind} {r : Option AV} {v : AV} (h : kindsF j k r = some v) : keq j k = true ∧ r = some v := by
  unfold kindsF at h
  cases hk : keq j k
  · rw [hk] at h; cases h
  · rw [hk] at h; exact ⟨rfl, h⟩
theorem boolF_eq (b : Bool) : boolF b = some (.sc (.bool (.known b))) := by cases b <;> rfl
theorem bothF_ok {k : IntKind} {x y : Nat} {r : Option AV} {v : AV} (h : bothF k x y r = some v) : k.signed = false ∧ r = some v := by
  cases k <;> first | (cases h; done) | exact ⟨rfl, h⟩
theorem bitsF_eq (k : IntKind) : bitsF k = k.bits := by cases k <;> rfl
theorem shF_eq (k : IntKind) (y : Nat) : shF k y = 2 ^ (min y k.bits) := by
  unfold shF
  rw [bitsF_eq]
  show Nat.pow 2 _ = _
  cases h : Nat.ble y k.bits
  · have h' : ¬ y ≤ k.bits := fun hh => by rw [(ble_iff _ _).2 hh] at h; cases h
    show 2 ^ k.bits = _
    rw [Nat.min_eq_right (by omega)]
  · show 2 ^ y = _
    rw [Nat.min_eq_left ((ble_iff _ _).1 h)]
theorem mkInt_k (Φ : Ctx) (k : IntKind) (c : Int) : mkInt Φ k ⟨c, []⟩ = (.int k (.k (k.wrap c)), Φ) := rfl
theorem ge0_k (Φ : Ctx) (c : Int) : Φ.ge0 ⟨c, []⟩ = ile 0 c := rfl
theorem ile_iff' (a b : Int) : ile a b = decide (a ≤ b) := by
  cases h : ile a b
  · symm; rw [decide_eq_false_iff_not]; intro hh; rw [(ile_iff _ _).2 hh] at h; cases h
  · symm; rw [decide_eq_true_iff]; exact (ile_iff _ _).1 h
theorem ieq_iff' (a b : Int) : ieq a b = decide (a = b) := by
  cases h : ieq a b
  · symm; rw [decide_eq_false_iff_not]; intro hh; rw [(ieq_iff _ _).2 hh] at h; cases h
  · symm; rw [decide_eq_true_iff]; exact (ieq_iff _ _).1 h
theorem blt_dec (a b : Nat) : Nat.blt a b = decide (a < b) := by
  cases h : Nat.blt a b
  · symm; rw [decide_eq_false_iff_not]; intro hh; rw [(blt_iff _ _).2 hh] at h; cases h
  · symm; rw [decide_eq_true_iff]; exact (blt_iff _ _).1 h
theorem ble_dec (a b : Nat) : Nat.ble a b = decide (a ≤ b) := by
  cases h : Nat.ble a b
  · symm; rw [decide_eq_false_iff_not]; intro hh; rw [(ble_iff _ _).2 hh] at h; cases h
  · symm; rw [decide_eq_true_iff]; exact (ble_iff _ _).1 h
theorem neg_k (c : Int) : (⟨c, []⟩ : Lin).neg = ⟨-1 * c, []⟩ := rfl
theorem sub_k (a b : Int) : (⟨a, []⟩ : Lin).sub ⟨b, []⟩ = ⟨a + -1 * b, []⟩ := rfl
theorem smul_k (m c : Int) : (⟨c, []⟩ : Lin).smul m = ⟨m * c, []⟩ := by
  unfold Lin.smul
  cases h : ieq m 0
  · rfl
  · rw [(ieq_iff _ _).1 h]; simp [Lin.k]
theorem bitsK_nat {op : BinOp} {k : IntKind} (hk : k.signed = false) {x y r : Nat} (h : op = .and ∧ r = Nat.land x y ∨ op = .or ∧ r = Nat.lor x y ∨ op = .xor ∧ r = Nat.xor x y) :
    k.wrap (bitsK op k (.ofNat x) (.ofNat y)) = k.wrap (.ofNat r) := by
  have hx : ∀ x : Nat, (BitVec.ofInt k.bits (.ofNat x)).toNat = x % 2 ^ k.bits := fun x => by
    rw [Int.ofNat_eq_natCast, BitVec.ofInt_natCast, BitVec.toNat_ofNat]
  rw [wrapU hk r]
  rcases h with ⟨rfl, rfl⟩ | ⟨rfl, rfl⟩ | ⟨rfl, rfl⟩ <;> simp only [bitsK]
  · rw [BitVec.toNat_and, hx, hx]
    show k.wrap (.ofNat _) = _
    rw [wrapU hk]
    show Int.ofNat (((x % 2 ^ k.bits) &&& (y % 2 ^ k.bits)) % 2 ^ k.bits) = Int.ofNat ((x &&& y) % 2 ^ k.bits)
    rw [Nat.and_mod_two_pow, Nat.and_mod_two_pow, Nat.mod_mod, Nat.mod_mod]
  · rw [BitVec.toNat_or, hx, hx]
    show k.wrap (.ofNat _) = _
    rw [wrapU hk]
    show Int.ofNat (((x % 2 ^ k.bits) ||| (y % 2 ^ k.bits)) % 2 ^ k.bits) = Int.ofNat ((x ||| y) % 2 ^ k.bits)
    rw [Nat.or_mod_two_pow, Nat.or_mod_two_pow, Nat.mod_mod, Nat.mod_mod]
  · rw [BitVec.toNat_xor, hx, hx]
    show k.wrap (.ofNat _) = _
    rw [wrapU hk]
    show Int.ofNat (((x % 2 ^ k.bits) ^^^ (y % 2 ^ k.bits)) % 2 ^ k.bits) = Int.ofNat ((x ^^^ y) % 2 ^ k.bits)
    rw [Nat.xor_mod_two_pow, Nat.xor_mod_two_pow, Nat.mod_mod, Nat.mod_mod]
theorem binF_ok {op : BinOp} {k j : IntKind} {x y : Nat} {v : AV} (h : binF op k j x y = some v) (st : St) (ty : Nat → Option TI) (t : TypeId) (c : Bool) :
    binOpA st ty op t c (.sc (.int k ⟨.ofNat x, []⟩)) (.sc (.int j ⟨.ofNat y, []⟩)) = .ok [⟨st.ctx, v, st.heap, st.nb⟩] := by
  cases op <;> first | (cases h; done) | skip
  case add =>
    obtain ⟨hk, h⟩ := kindsF_ok (show kindsF k j (wrapF k (Nat.add x y)) = some v from h)
    cases wrapF_ok h
    simp only [binOpA, hk, cond_true, intArithA, Lin.add, mkInt_k, R.bind, oneC]; rfl
  case sub =>
    obtain ⟨hk, h⟩ := kindsF_ok (show kindsF k j (subF k x y) = some v from h)
    cases subF_ok h
    simp only [binOpA, hk, cond_true, intArithA, sub_k, mkInt_k, R.bind, oneC]
    rw [show Int.ofNat x + -1 * Int.ofNat y = Int.ofNat x - Int.ofNat y by omega]
  case mul =>
    obtain ⟨hk, h⟩ := kindsF_ok (show kindsF k j (wrapF k (Nat.mul x y)) = some v from h)
    cases wrapF_ok h
    simp only [binOpA, hk, cond_true, intArithA, smul_k, mkInt_k, R.bind, oneC]; rfl
  case quo =>
    obtain ⟨hk, h⟩ := kindsF_ok (show kindsF k j (Nat.rec (motive := fun _ => Option AV) none (fun _ _ => wrapF k (Nat.div x y)) y) = some v from h)
    cases y with
    | zero => cases h
    | succ m =>
      cases wrapF_ok (show wrapF k (Nat.div x (m + 1)) = some v from h)
      simp only [binOpA, hk, cond_true, intArithA, quoA, mkInt_k, Lin.k, R.bind, oneC]; rfl
  case rem =>
    obtain ⟨hk, h⟩ := kindsF_ok (show kindsF k j (Nat.rec (motive := fun _ => Option AV) none (fun _ _ => wrapF k (Nat.mod x y)) y) = some v from h)
    cases y with
    | zero => cases h
    | succ m =>
      cases wrapF_ok (show wrapF k (Nat.mod x (m + 1)) = some v from h)
      simp only [binOpA, hk, cond_true, intArithA, remA, mkInt_k, Lin.k, R.bind, oneC]; rfl
  case and =>
    obtain ⟨hk, h⟩ := kindsF_ok (show kindsF k j (bothF k x y (wrapF k (Nat.land x y))) = some v from h)
    obtain ⟨hs, h⟩ := bothF_ok h
    cases wrapF_ok h
    simp only [binOpA, hk, cond_true, intBitsA, Lin.k, mkInt_k, R.bind, oneC, bitsK_nat hs (.inl ⟨rfl, rfl⟩)]
  case or =>
    obtain ⟨hk, h⟩ := kindsF_ok (show kindsF k j (bothF k x y (wrapF k (Nat.lor x y))) = some v from h)
    obtain ⟨hs, h⟩ := bothF_ok h
    cases wrapF_ok h
    simp only [binOpA, hk, cond_true, intBitsA, Lin.k, mkInt_k, R.bind, oneC, bitsK_nat hs (.inr (.inl ⟨rfl, rfl⟩))]
  case xor =>
    obtain ⟨hk, h⟩ := kindsF_ok (show kindsF k j (bothF k x y (wrapF k (Nat.xor x y))) = some v from h)
    obtain ⟨hs, h⟩ := bothF_ok h
    cases wrapF_ok h
    simp only [binOpA, hk, cond_true, intBitsA, Lin.k, mkInt_k, R.bind, oneC, bitsK_nat hs (.inr (.inr ⟨rfl, rfl⟩))]
  case shl =>
    cases wrapF_ok (show wrapF k (Nat.mul x (shF k y)) = some v from h)
    rw [shF_eq]
    have h0 : ile 0 (Int.ofNat y) = true := by rw [ile_iff]; simp
    simp only [binOpA, shiftA, ge0_k, h0, cond_true, smul_k, mkInt_k, R.bind, oneC]
    rw [show ((2 ^ min y k.bits : Nat) : Int) * Int.ofNat x = Int.ofNat (Nat.mul x (2 ^ min y k.bits)) by
      show _ = ((x * 2 ^ min y k.bits : Nat) : Int); simp only [Int.ofNat_eq_natCast, Int.natCast_mul]; rw [Int.mul_comm]]
  case shr =>
    cases wrapF_ok (show wrapF k (Nat.div x (shF k y)) = some v from h)
    rw [shF_eq]
    have h0 : ile 0 (Int.ofNat y) = true := by rw [ile_iff]; simp
    simp only [binOpA, shiftA, ge0_k, h0, cond_true, mkInt_k, Lin.k, R.bind, oneC]
    rw [show (Int.ofNat x).fdiv ((2 ^ min y k.bits : Nat) : Int) = Int.ofNat (Nat.div x (2 ^ min y k.bits)) by
      rw [Int.fdiv_eq_ediv_of_nonneg _ (Int.natCast_nonneg _)]; rfl]
  all_goals
    simp only [binOpA]
  case eql =>
    obtain ⟨hk, h⟩ := kindsF_ok (show kindsF k j (boolF (Nat.beq x y)) = some v from h)
    rw [boolF_eq] at h; cases h
    simp only [hk, cond_true, intCmpA, sub_k, mkB, R.bind, one, ieq_iff', beq_dec]
    congr 6; simp only [Int.ofNat_eq_natCast, decide_eq_decide]; omega
  case neq =>
    obtain ⟨hk, h⟩ := kindsF_ok (show kindsF k j (Bool.rec (motive := fun _ => Option AV) (boolF true) (boolF false) (Nat.beq x y)) = some v from h)
    have h : some (AV.sc (.bool (.known (!Nat.beq x y)))) = some v := by
      rw [← h]; cases Nat.beq x y <;> rfl
    cases h
    simp only [hk, cond_true, intCmpA, sub_k, mkB, R.bind, one, ieq_iff', beq_dec]
    congr 7; simp only [Int.ofNat_eq_natCast, decide_eq_decide]; omega
  case lss =>
    obtain ⟨hk, h⟩ := kindsF_ok (show kindsF k j (boolF (Nat.blt x y)) = some v from h)
    rw [boolF_eq] at h; cases h
    simp only [hk, cond_true, intCmpA, sub_k, Lin.addc, mkB, R.bind, one, ile_iff', blt_dec]
    congr 6; simp only [Int.ofNat_eq_natCast, decide_eq_decide]; omega
  case leq =>
    obtain ⟨hk, h⟩ := kindsF_ok (show kindsF k j (boolF (Nat.ble x y)) = some v from h)
    rw [boolF_eq] at h; cases h
    simp only [hk, cond_true, intCmpA, sub_k, mkB, R.bind, one, ile_iff', ble_dec]
    congr 6; simp only [Int.ofNat_eq_natCast, decide_eq_decide]; omega
  case gtr =>
    obtain ⟨hk, h⟩ := kindsF_ok (show kindsF k j (boolF (Nat.blt y x)) = some v from h)
    rw [boolF_eq] at h; cases h
    simp only [hk, cond_true, intCmpA, sub_k, Lin.addc, mkB, R.bind, one, ile_iff', blt_dec]
    congr 6; simp only [Int.ofNat_eq_natCast, decide_eq_decide]; omega
  case geq =>
    obtain ⟨hk, h⟩ := kindsF_ok (show kindsF k j (boolF (Nat.ble y x)) = some v from h)
    rw [boolF_eq] at h; cases h
    simp only [hk, cond_true, intCmpA, sub_k, mkB, R.bind, one, ile_iff', ble_dec]
    congr 6; simp only [Int.ofNat_eq_natCast, decide_eq_decide]; omega

/-! Operands. -/
def Ev (T : Tr AV) (x : Operand) (u : AV) : Prop := (∃ t, x = .tmp t ∧ T.get t = some u) ∨ (∃ c, x = .const c ∧ u = ofValue c)
theorem evK_some {x : Operand} {T : Tr AV} {f : AV → Option AV} {v : AV} (h : evK x T f = some v) : ∃ u, Ev T x u ∧ f u = some v := by
  cases x with
  | tmp t =>
    have h : Option.rec (motive := fun _ => Option AV) none f (T.get t) = some v := h
    cases hg : T.get t with
    | none => rw [hg] at h; cases h
    | some u => rw [hg] at h; exact ⟨u, .inl ⟨t, rfl, hg⟩, h⟩
  | const c => exact ⟨_, .inr ⟨c, rfl, rfl⟩, h⟩
  | global g => cases h
  | func f => cases h
theorem linF_some {e : Lin} {f : Nat → Option AV} {v : AV} (h : linF e f = some v) : ∃ a, e = ⟨.ofNat a, []⟩ ∧ f a = some v := by
  obtain ⟨c, ts⟩ := e
  cases ts with
  | nil => cases c with
    | ofNat a => exact ⟨a, rfl, h⟩
    | negSucc a => cases h
  | cons => cases h
theorem intK_some {s : SV} {f : IntKind → Nat → Option AV} {v : AV} (h : intK s f = some v) : ∃ k a, s = .int k ⟨.ofNat a, []⟩ ∧ f k a = some v := by
  cases s <;> first | (cases h; done) | skip
  rename_i k e
  obtain ⟨a, rfl, h⟩ := linF_some (show linF e (f k) = some v from h)
  exact ⟨k, a, rfl, h⟩
theorem ptrK_some {s : SV} {f : Nat → Nat → Option AV} {v : AV} (h : ptrK s f = some v) : ∃ b o, s = .ptr b ⟨.ofNat o, []⟩ ∧ f b o = some v := by
  cases s <;> first | (cases h; done) | skip
  rename_i b e
  obtain ⟨a, rfl, h⟩ := linF_some (show linF e (f b) = some v from h)
  exact ⟨b, a, rfl, h⟩
theorem scK_some {u : AV} {f : SV → Option AV} {v : AV} (h : scK u f = some v) : ∃ s, u = .sc s ∧ f s = some v := by
  cases u <;> first | (cases h; done) | skip
  exact ⟨_, rfl, h⟩
theorem inK_some {x : Operand} {T : Tr AV} {f : IntKind → Nat → Option AV} {v : AV} (h : inK' x T f = some v) : ∃ k a, Ev T x (.sc (.int k ⟨.ofNat a, []⟩)) ∧ f k a = some v := by
  obtain ⟨u, h1, h⟩ := evK_some h
  obtain ⟨s, rfl, h⟩ := scK_some h
  obtain ⟨k, a, rfl, h⟩ := intK_some h
  exact ⟨k, a, h1, h⟩
theorem atK_some {x : Operand} {T : Tr AV} {f : Nat → Nat → Option AV} {v : AV} (h : atK x T f = some v) : ∃ b o, Ev T x (.sc (.ptr b ⟨.ofNat o, []⟩)) ∧ f b o = some v := by
  obtain ⟨u, h1, h⟩ := evK_some h
  obtain ⟨s, rfl, h⟩ := scK_some h
  obtain ⟨b, o, rfl, h⟩ := ptrK_some h
  exact ⟨b, o, h1, h⟩
theorem wfF_ok {v : AV} {n nb : Nat} (h : wfF v n nb = true) : v.wf n nb = true := by
  cases v with
  | sc s =>
    cases s <;> first | exact h | skip
    rename_i k e
    obtain ⟨c, ts⟩ := e
    cases ts with
    | nil => rfl
    | cons => exact h
  | agg => exact h
  | tup => exact h
theorem descK_some {o : Option TI} {f : TypeDesc → Option AV} {v : AV} (h : descK o f = some v) : ∃ ti, o = some ti ∧ f ti.desc = some v := by
  cases o with
  | none => cases h
  | some ti => exact ⟨ti, rfl, h⟩
theorem kindK_some {d : TypeDesc} {f : IntKind → Option AV} {v : AV} (h : kindK d f = some v) : ∃ k, d = .int k ∧ f k = some v := by
  unfold kindK at h
  split at h
  · exact ⟨_, rfl, h⟩
  · cases h
theorem arrK_some {d : TypeDesc} {f : Nat → TypeId → Option AV} {v : AV} (h : arrK d f (fun _ => none) = some v) : ∃ n e, d = .array n e ∧ f n e = some v := by
  unfold arrK at h
  split at h
  · exact ⟨_, _, rfl, h⟩
  · cases h
  · cases h
theorem placeF_some {e : Option TI} {b o i : Nat} {v : AV} (h : placeF e b o i none = some v) : ∃ ei, e = some ei ∧ v = .sc (.ptr b ⟨.ofNat (o + ei.size * i), []⟩) := by
  cases e with
  | none => cases h
  | some ei =>
    obtain ⟨size, b1, b2, b3, b4⟩ := ei
    have h : some (AV.sc (.ptr b ⟨.ofNat (Nat.add o (Nat.mul size i)), []⟩)) = some v := h
    cases h
    exact ⟨_, rfl, rfl⟩
theorem Ev.eval {T : Tr AV} {x : Operand} {u : AV} (h : Ev T x u) (Φ : Ctx) (H : Tr ABlk) (nb nt : Nat) : evalA ⟨Φ, T, H, nb, nt⟩ x = u := by
  rcases h with ⟨t, rfl, h⟩ | ⟨c, rfl, rfl⟩
  · simp only [evalA, getT, h]
  · rfl
theorem Ev.to {T T' : Tr AV} {x : Operand} {u : AV} (h : Ev T x u) (hT : ∀ t u, t ∈ tmpsIn [x] → T.get t = some u → T'.get t = some u) : Ev T' x u := by
  rcases h with ⟨t, rfl, h⟩ | ⟨c, rfl, rfl⟩
  · exact .inl ⟨t, rfl, hT t u (by simp [tmpsIn]) h⟩
  · exact .inr ⟨c, rfl, rfl⟩
theorem Ev.globs {T : Tr AV} {x : Operand} {u : AV} (h : Ev T x u) (st : St) (r : List Operand) : globsIn st (x :: r) = globsIn st r := by
  rcases h with ⟨t, rfl, h⟩ | ⟨c, rfl, rfl⟩ <;> rfl
theorem tmpsIn_cons (x : Operand) (r : List Operand) : tmpsIn (x :: r) = tmpsIn [x] ++ tmpsIn r := by
  cases x <;> simp [tmpsIn]
theorem Ev.wf {T : Tr AV} {x : Operand} {u : AV} (h : Ev T x u) {n nb : Nat} (hw : u.wf n nb = true) : ∀ t ∈ tmpsIn [x], ∃ u, T.get t = some u ∧ u.wf n nb = true := by
  rcases h with ⟨t, rfl, h⟩ | ⟨c, rfl, rfl⟩
  · intro s hs
    simp only [tmpsIn, List.mem_singleton] at hs
    subst hs
    exact ⟨u, h, hw⟩
  · intro s hs; simp [tmpsIn] at hs
/-- what the fast way of an operation says -/
structure Fast1 (op : Op) (env : Env) (T : Tr AV) (n nb : Nat) (v : AV) : Prop where
  run : ∀ T', (∀ t u, t ∈ tmpsIn op.operands.toList → T.get t = some u → T'.get t = some u) → ∀ (callF : CallF) (Φ : Ctx) (H : Tr ABlk) (nt : Nat), Φ.n = n → execA env callF ⟨Φ, T', H, nb, nt⟩ op = .ok [⟨Φ, v, H, nb⟩]
  wf : ∀ t ∈ tmpsIn op.operands.toList, ∃ u, T.get t = some u ∧ u.wf n nb = true
  no : ∀ Φ H nt, looks env ⟨Φ, T, H, nb, nt⟩ op = none ∧ touch ⟨Φ, T, H, nb, nt⟩ op = []
theorem one_fast {op : Op} {x : Operand} (ho : op.operands.toList = [x]) {env : Env} {T : Tr AV} {n nb : Nat} {u v : AV} (hx : Ev T x u) (hw : u.wf n nb = true)
    (run : ∀ (callF : CallF) (st : St), st.ctx.n = n → st.nb = nb → evalA st x = u → execA env callF st op = .ok [⟨st.ctx, v, st.heap, st.nb⟩])
    (no : ∀ st : St, evalA st x = u → looks env st op = none ∧ (touch st op = [] ∨ touch st op = globsIn st [x])) : Fast1 op env T n nb v where
  run T' hT callF Φ H nt hn := run callF ⟨Φ, T', H, nb, nt⟩ hn rfl ((hx.to (by rw [← ho]; exact hT)).eval Φ H nb nt)
  wf := by rw [ho]; exact hx.wf hw
  no Φ H nt := by
    obtain ⟨h1, h2 | h2⟩ := no ⟨Φ, T, H, nb, nt⟩ (hx.eval Φ H nb nt)
    · exact ⟨h1, h2⟩
    · exact ⟨h1, by rw [h2, hx.globs]; rfl⟩
theorem two_fast {op : Op} {x y : Operand} (ho : op.operands.toList = [x, y]) {env : Env} {T : Tr AV} {n nb : Nat} {u u' v : AV} (hx : Ev T x u) (hy : Ev T y u') (hw : u.wf n nb = true) (hw' : u'.wf n nb = true)
    (run : ∀ (callF : CallF) (st : St), st.ctx.n = n → st.nb = nb → evalA st x = u → evalA st y = u' → execA env callF st op = .ok [⟨st.ctx, v, st.heap, st.nb⟩])
    (no : ∀ st : St, looks env st op = none ∧ touch st op = globsIn st [x, y]) : Fast1 op env T n nb v where
  run T' hT callF Φ H nt hn := by
    rw [ho, tmpsIn_cons] at hT
    exact run callF ⟨Φ, T', H, nb, nt⟩ hn rfl ((hx.to fun t u ht => hT t u (List.mem_append.2 (.inl ht))).eval Φ H nb nt) ((hy.to fun t u ht => hT t u (List.mem_append.2 (.inr ht))).eval Φ H nb nt)
  wf := by
    rw [ho, tmpsIn_cons]
    intro t ht
    rcases List.mem_append.1 ht with h | h
    · exact hx.wf hw t h
    · exact hy.wf hw' t h
  no Φ H nt := by
    obtain ⟨h1, h2⟩ := no ⟨Φ, T, H, nb, nt⟩
    exact ⟨h1, by rw [h2, hx.globs, hy.globs]; rfl⟩
theorem wf_int (k : IntKind) (c : Int) (n nb : Nat) : AV.wf n nb (.sc (.int k ⟨c, []⟩)) = true := rfl
theorem wf_ptr {b nb : Nat} (h : Nat.blt b nb = true) (c : Int) (n : Nat) : AV.wf n nb (.sc (.ptr b ⟨c, []⟩)) = true := by
  simp only [AV.wf, SV.wf, h, Lin.lt, Lin.ltTs, Bool.and_self]
theorem fast1_sound {op : Op} {env : Env} {T : Tr AV} {n nb : Nat} {v : AV} (h : fast1 op env T n nb = some v) : Fast1 op env T n nb v := by
  cases op <;> first | (cases h; done) | skip
  case move x =>
    obtain ⟨u, hx, h⟩ := evK_some h
    obtain ⟨hw, h⟩ := okF_ok h
    cases h
    exact one_fast rfl hx (wfF_ok hw) (fun callF st _ _ he => by simp only [execA, he, one]) (fun st _ => ⟨rfl, .inr rfl⟩)
  case assign x =>
    obtain ⟨u, hx, h⟩ := evK_some h
    obtain ⟨hw, h⟩ := okF_ok h
    cases h
    exact one_fast rfl hx (wfF_ok hw) (fun callF st _ _ he => by simp only [execA, he, one]) (fun st _ => ⟨rfl, .inr rfl⟩)
  case nilCheck x =>
    obtain ⟨b, o, hx, h⟩ := atK_some h
    obtain ⟨hw, h⟩ := okF_ok h
    cases h
    exact one_fast rfl hx (wf_ptr hw _ _) (fun callF st _ _ he => by simp only [execA, he, one]) (fun st _ => ⟨rfl, .inr rfl⟩)
  case convert s d x =>
    obtain ⟨k, a, hx, h⟩ := inK_some h
    obtain ⟨si, hs, h⟩ := descK_some h
    obtain ⟨di, hd, h⟩ := descK_some h
    obtain ⟨k', hk, h⟩ := kindK_some h
    cases wrapF_ok h
    exact one_fast rfl hx (wf_int _ _ _ _) (fun callF st _ _ he => by simp only [execA, he, convertOp, hs, hd, hk, oneC, mkInt_k]) (fun st he => ⟨rfl, .inl (by simp only [touch, he, avBlks, svBlks])⟩)
  case binOp op t x y yt =>
    obtain ⟨k, a, hx, h⟩ := inK_some h
    obtain ⟨j, b, hy, h⟩ := inK_some h
    exact two_fast rfl hx hy (wf_int _ _ _ _) (wf_int _ _ _ _) (fun callF st _ _ he he' => by simp only [execA, he, he']; exact binF_ok h st _ _ _) (fun st => ⟨rfl, rfl⟩)
  case indexAddr t x i =>
    have h : descK (env.tys t) (fun d => arrK d (fun n e => atK x T fun b o => inK' i T fun _ j => okF (Nat.blt b nb) (okF (Nat.blt j n) (placeF (env.tys e) b o j none))) (fun _ => none)) = some v := h
    obtain ⟨ti, ht, h⟩ := descK_some h
    obtain ⟨m, e, hd, h⟩ := arrK_some h
    obtain ⟨b, o, hx, h⟩ := atK_some h
    obtain ⟨j, a, hy, h⟩ := inK_some h
    obtain ⟨hw, h⟩ := okF_ok h
    obtain ⟨hj, h⟩ := okF_ok h
    obtain ⟨ei, he, rfl⟩ := placeF_some h
    rw [blt_iff] at hj
    refine two_fast rfl hx hy (wf_ptr hw _ _) (wf_int _ _ _ _) (fun callF st _ _ h1 h2 => ?_) (fun st => ⟨rfl, rfl⟩)
    obtain ⟨b1, b2, d, b4, b5⟩ := ti
    dsimp only at hd
    subst hd
    have c1 : ile 0 (Int.ofNat a) = true := by rw [ile_iff]; simp
    have c2 : ile 0 (-1 * Int.ofNat a + ((m : Int) - 1)) = true := by rw [ile_iff]; simp only [Int.ofNat_eq_natCast]; omega
    have c3 : ile 0 (Int.ofNat o) = true := by rw [ile_iff]; simp
    simp only [execA, h1, h2, indexAddrOp, ht, he, neg_k, Lin.addc, ge0_k, c1, c2, c3, Bool.and_self, cond_true, one, smul_k, Lin.add]
    rw [show Int.ofNat o + (ei.size : Int) * Int.ofNat a = Int.ofNat (o + ei.size * a) by simp only [Int.ofNat_eq_natCast, Int.natCast_add, Int.natCast_mul]]

/-! Loads. -/
theorem cgetF_eq : ∀ (l : List SV) (n : Nat), cgetF l n = cget l n
  | [], _ => rfl
  | _ :: _, 0 => rfl
  | _ :: l, n + 1 => cgetF_eq l n
theorem evL_some {x : Operand} {T : Tr AV} {f : AV → Look} {v : AV × Option (Nat × Nat × Nat)} (h : evL x T f = some v) : ∃ u, Ev T x u ∧ f u = some v := by
  cases x with
  | tmp t =>
    have h : Option.rec (motive := fun _ => Look) none f (T.get t) = some v := h
    cases hg : T.get t with
    | none => rw [hg] at h; cases h
    | some u => rw [hg] at h; exact ⟨u, .inl ⟨t, rfl, hg⟩, h⟩
  | const c => exact ⟨_, .inr ⟨c, rfl, rfl⟩, h⟩
  | global g => cases h
  | func f => cases h
theorem linL_some {e : Lin} {f : Nat → Look} {v : AV × Option (Nat × Nat × Nat)} (h : linL e f = some v) : ∃ a, e = ⟨.ofNat a, []⟩ ∧ f a = some v := by
  obtain ⟨c, ts⟩ := e
  cases ts with
  | nil => cases c with
    | ofNat a => exact ⟨a, rfl, h⟩
    | negSucc a => cases h
  | cons => cases h
theorem ptrL_some {s : SV} {f : Nat → Nat → Look} {v : AV × Option (Nat × Nat × Nat)} (h : ptrL s f = some v) : ∃ b o, s = .ptr b ⟨.ofNat o, []⟩ ∧ f b o = some v := by
  cases s <;> first | (cases h; done) | skip
  rename_i b e
  obtain ⟨a, rfl, h⟩ := linL_some (show linL e (f b) = some v from h)
  exact ⟨b, a, rfl, h⟩
theorem scL_some {u : AV} {f : SV → Look} {v : AV × Option (Nat × Nat × Nat)} (h : scL u f = some v) : ∃ s, u = .sc s ∧ f s = some v := by
  cases u <;> first | (cases h; done) | skip
  exact ⟨_, rfl, h⟩
theorem cellL_some {x : ABlk} {f : List SV → Look} {v : AV × Option (Nat × Nat × Nat)} (h : cellL x f = some v) : ∃ t cs, x = .cells t cs ∧ f cs = some v := by
  cases x <;> first | (cases h; done) | skip
  exact ⟨_, _, rfl, h⟩
theorem boolL {b : Bool} {x y : Look} {v : AV × Option (Nat × Nat × Nat)} (h : Bool.rec (motive := fun _ => Look) x y b = some v) : b = false ∧ x = some v ∨ b = true ∧ y = some v := by
  cases b
  · exact .inl ⟨rfl, h⟩
  · exact .inr ⟨rfl, h⟩
theorem optL {α : Type} {o : Option α} {f : α → Look} {v : AV × Option (Nat × Nat × Nat)} (h : Option.rec (motive := fun _ => Look) none f o = some v) : ∃ a, o = some a ∧ f a = some v := by
  cases o with
  | none => cases h
  | some a => exact ⟨a, rfl, h⟩
/-- what a fast load says -/
structure Fast2 (op : Op) (env : Env) (T : Tr AV) (H : Tr ABlk) (n nb : Nat) (v : AV) (ls : Option (Nat × Nat × Nat)) : Prop where
  run : ∀ (callF : CallF) (Φ : Ctx) (nt : Nat), Φ.n = n → execA env callF ⟨Φ, T, H, nb, nt⟩ op = .ok [⟨Φ, v, H, nb⟩]
  wf : ∀ t ∈ tmpsIn op.operands.toList, ∃ u, T.get t = some u ∧ u.wf n nb = true
  drawn : ∀ (callF : CallF) (Φ : Ctx) (nt : Nat), Φ.n = n → execD env callF ⟨Φ, T, H, nb, nt⟩ op = .ok [(⟨Φ, v, H, nb⟩, ⟨[], ls, []⟩)]
theorem fast2_sound {op : Op} {env : Env} {T : Tr AV} {H : Tr ABlk} {n nb : Nat} {v : AV} {ls : Option (Nat × Nat × Nat)} (h : fast2 op env T H n nb = some (v, ls)) : Fast2 op env T H n nb v ls := by
  cases op <;> first | (cases h; done) | skip
  case load t a =>
    have h : loadF env t a T H n nb = some (v, ls) := h
    unfold loadF at h
    obtain ⟨u, hx, h⟩ := evL_some h
    obtain ⟨s, rfl, h⟩ := scL_some h
    obtain ⟨b, o, rfl, h⟩ := ptrL_some h
    obtain ⟨_, h⟩ | ⟨hb, h⟩ := boolL h
    · cases h
    obtain ⟨ti, ht, h⟩ := optL h
    obtain ⟨ha, h⟩ | ⟨_, h⟩ := boolL h
    · obtain ⟨x, hH, h⟩ := optL h
      obtain ⟨u, cs, rfl, h⟩ := cellL_some h
      obtain ⟨s, hs, h⟩ := optL h
      rw [cgetF_eq] at hs
      obtain ⟨_, h⟩ | ⟨hw, h⟩ := boolL h
      · cases h
      cases h
      have hw := wfF_ok hw
      have hblk : blk H b = .cells u cs := by simp only [blk, hH]
      refine ⟨fun callF Φ nt hn => ?_, hx.wf (wf_ptr hb _ _), fun callF Φ nt hn => ?_⟩
      · simp only [execA, hx.eval, ht, loadOp, hblk, loadCells1, ha, cond_false, cellAt, hs, R.bind, many, updsOf]
      · unfold execD
        have hl : looks env ⟨Φ, T, H, nb, nt⟩ (.load t a) = some (b, o, none) := by
          simp only [looks, hx.eval, ht, hblk, ha, cond_false]
        rw [hl]
        simp only [hb, cond_true, loadAt1, hblk, hs, R.bind, optN]
        rw [hn, hw]; rfl
    · cases h
/-- either -/
theorem fastO_run {op : Op} {env : Env} {T : Tr AV} {H : Tr ABlk} {n nb : Nat} {v : AV} {ls : Option (Nat × Nat × Nat)} (h : fastO op env T H n nb = some (v, ls)) (callF : CallF) {Φ : Ctx} (nt : Nat) (hn : Φ.n = n) :
    execA env callF ⟨Φ, T, H, nb, nt⟩ op = .ok [⟨Φ, v, H, nb⟩] := by
  unfold fastO at h
  cases h1 : fast1 op env T n nb with
  | none => rw [h1] at h; exact (fast2_sound h).run callF Φ nt hn
  | some w =>
    rw [h1] at h
    cases h
    exact (fast1_sound h1).run T (fun _ _ _ h => h) callF Φ H nt hn
theorem slotsWf_of {T : Tr AV} {Φ : Ctx} {H : Tr ABlk} {nb nt : Nat} : ∀ {l : List Nat}, (∀ t ∈ l, ∃ u, T.get t = some u ∧ u.wf Φ.n nb = true) → slotsWf ⟨Φ, T, H, nb, nt⟩ l = true
  | [], _ => rfl
  | t :: r, h => by
    obtain ⟨u, h1, h2⟩ := h t List.mem_cons_self
    simp only [slotsWf, getT, h1, h2, Bool.true_and]
    exact slotsWf_of fun s hs => h s (List.mem_cons_of_mem _ hs)
theorem get_restrictT (T : Tr AV) : ∀ {l : List Nat} {t : Nat} {u : AV}, t ∈ l → T.get t = some u → (restrictT T l).get t = some u
  | s :: l, t, u, hm, hg => by
    simp only [restrictT, Tr.get_set]
    by_cases e : t = s
    · subst e; simp only [if_true, getT, hg]
    · rw [if_neg e]
      exact get_restrictT T (List.mem_of_ne_of_mem e hm) hg
theorem fastO_drawn {op : Op} {env : Env} {T : Tr AV} {H : Tr ABlk} {n nb : Nat} {v : AV} {ls : Option (Nat × Nat × Nat)} (h : fastO op env T H n nb = some (v, ls)) (callF : CallF) {Φ : Ctx} (nt : Nat) (hn : Φ.n = n) :
    slotsWf ⟨Φ, T, H, nb, nt⟩ (tmpsIn op.operands.toList) = true ∧ execD env callF ⟨Φ, T, H, nb, nt⟩ op = .ok [(⟨Φ, v, H, nb⟩, ⟨[], ls, []⟩)] := by
  subst hn
  unfold fastO at h
  cases h1 : fast1 op env T Φ.n nb with
  | none => rw [h1] at h; exact ⟨slotsWf_of (fast2_sound h).wf, (fast2_sound h).drawn callF Φ nt rfl⟩
  | some w =>
    rw [h1] at h
    cases h
    have F := fast1_sound h1
    refine ⟨slotsWf_of F.wf, ?_⟩
    obtain ⟨h2, h3⟩ := F.no Φ H nt
    unfold execD
    rw [h2, h3]
    have hr := F.run (restrictT T (tmpsIn op.operands.toList)) (fun t u ht hg => get_restrictT T ht hg) callF Φ .nil nt rfl
    simp only [execT, blksWf, cond_true, restrictTo, only, hr, R.bind, List.map_cons, List.map_nil, Nat.sub_self, numsFrom, List.append_nil, copyBlks, diffs, newWs]

/-! Regions. -/
theorem app_nil {α : Type} (x : R (List α)) : (x.bind fun b => R.ok (b ++ [])) = x := by
  cases x with
  | err s => rfl
  | ok l => simp only [R.bind, List.append_nil]
theorem flat1 {α β : Type} (f : α → R (List β)) (a : α) : R.flatL f [a] = f a := by
  simp only [R.flatL]
  exact app_nil (f a)
theorem putF_eq {β : Type} (st : St) (d : Option Nat) (v : AV) (k : Tr AV → R β) : putF d st.tmps st.nt v k = (putDst st d v).bind k := by
  cases d with
  | none => rfl
  | some d =>
    simp only [putF, putDst]
    cases h : Nat.blt d st.nt
    · rfl
    · rfl
theorem runOpsF_eq (env : Env) (callF : CallF) (ops : Array Oper) : ∀ (l : List Oper) (st : St), runOpsF env callF ops l st = runOps env callF ops l st
  | [], _ => rfl
  | o :: rest, st => by
    have hk : runOpsF env callF ops rest = runOps env callF ops rest := funext (runOpsF_eq env callF ops rest)
    obtain ⟨Φ, T, H, nb, nt⟩ := st
    obtain ⟨dst, op, ty, pos, after, guard⟩ := o
    have slow : slowO env callF ops ⟨dst, op, ty, pos, after, guard⟩ (runOpsF env callF ops rest) ⟨Φ, T, H, nb, nt⟩ = runOps env callF ops (⟨dst, op, ty, pos, after, guard⟩ :: rest) ⟨Φ, T, H, nb, nt⟩ := by
      rw [hk]; rfl
    cases guard with
    | some g => exact slow
    | none =>
      show Option.rec (motive := fun _ => R (List St)) (slowO env callF ops ⟨dst, op, ty, pos, after, none⟩ (runOpsF env callF ops rest) ⟨Φ, T, H, nb, nt⟩)
          (fun p => Prod.rec (motive := fun _ => R (List St)) (fun v _ => putF dst T nt v fun T' => runOpsF env callF ops rest ⟨Φ, T', H, nb, nt⟩) p) (fastO op env T H Φ.n nb) = _
      cases hf : fastO op env T H Φ.n nb with
      | none => exact slow
      | some p =>
        obtain ⟨v, ls⟩ := p
        show putF dst T nt v (fun T' => runOpsF env callF ops rest ⟨Φ, T', H, nb, nt⟩) = _
        rw [hk, putF_eq ⟨Φ, T, H, nb, nt⟩ dst v]
        have he := fastO_run hf callF nt rfl
        simp only [runOps, wantedA, R.bind, flat1, cond_true, he, sayAt, forceN_eq]
theorem runOpsDF_eq (env : Env) (callF : CallF) (ops : Array Oper) : ∀ (l : List Oper) (st : St) (tr : List Tc), runOpsDF env callF ops l st tr = runOpsD env callF ops l st tr
  | [], _, _ => rfl
  | o :: rest, st, tr => by
    have hk : runOpsDF env callF ops rest = runOpsD env callF ops rest := funext fun st => funext fun tr => runOpsDF_eq env callF ops rest st tr
    obtain ⟨Φ, T, H, nb, nt⟩ := st
    obtain ⟨dst, op, ty, pos, after, guard⟩ := o
    have slow : slowOD env callF ops ⟨dst, op, ty, pos, after, guard⟩ (runOpsDF env callF ops rest) ⟨Φ, T, H, nb, nt⟩ tr = runOpsD env callF ops (⟨dst, op, ty, pos, after, guard⟩ :: rest) ⟨Φ, T, H, nb, nt⟩ tr := by
      rw [hk]; rfl
    cases guard with
    | some g => exact slow
    | none =>
      show Option.rec (motive := fun _ => R (List (St × List Tc))) (slowOD env callF ops ⟨dst, op, ty, pos, after, none⟩ (runOpsDF env callF ops rest) ⟨Φ, T, H, nb, nt⟩ tr)
          (fun p => Prod.rec (motive := fun _ => R (List (St × List Tc))) (fun v ls => putF dst T nt v fun T' => runOpsDF env callF ops rest ⟨Φ, T', H, nb, nt⟩ (⟨[], ls, []⟩ :: tr)) p) (fastO op env T H Φ.n nb) = _
      cases hf : fastO op env T H Φ.n nb with
      | none => exact slow
      | some p =>
        obtain ⟨v, ls⟩ := p
        show putF dst T nt v (fun T' => runOpsDF env callF ops rest ⟨Φ, T', H, nb, nt⟩ (⟨[], ls, []⟩ :: tr)) = _
        rw [hk, putF_eq ⟨Φ, T, H, nb, nt⟩ dst v]
        obtain ⟨hw, he⟩ := fastO_drawn hf callF nt rfl
        simp only [runOpsD, tmpsOf, hw, cond_true, wantedA, R.bind, flat1, he, sayAt, forceN_eq]
theorem runRegionF_eq (env : Env) (callF : CallF) (ops : Array Oper) (drawn : Bool) (st : St) : runRegionF env callF ops drawn st = runRegion env callF ops drawn st := by
  unfold runRegionF runRegion
  rw [runOpsDF_eq, runOpsF_eq]
  rfl

/-! Code. -/
theorem bindR_eq (x : R Es) (f : Es → R Es) : bindR x f = x.bind f := by cases x <;> rfl
theorem andThenF_eq (f : St → R Es) : ∀ l, andThenF f l = andThen f l
  | [] => rfl
  | (e, s) :: r => by
    have ih := andThenF_eq f r
    cases e <;> (simp only [andThen]; rw [← ih])
    · show bindR (f s) (fun a => bindR (andThenF f r) fun l => .ok (a ++ l)) = _
      rw [bindR_eq]; congr 1; funext a; rw [bindR_eq]
    · exact bindR_eq _ _
    · exact bindR_eq _ _
theorem knownB_eq {v : AV} {yes no slow x : R Es} (hs : slow = x) (hk : ∀ b, v = .sc (.bool (.known b)) → (bif b then yes else no) = x) : knownB v yes no slow = x := by
  cases v with
  | sc s =>
    cases s <;> first | exact hs | skip
    rename_i b
    cases b <;> first | exact hs | skip
    rename_i b
    have := hk b rfl
    cases b <;> exact this
  | agg => exact hs
  | tup => exact hs
theorem runF_eq (env : Env) : ∀ (fuel f cur : Nat) (c : Code) (st : St), runF env fuel f cur c st = run env fuel f cur c st
  | 0, _, _, _, _ => rfl
  | fuel + 1, f, cur, c, st => by
    have hk : runF env fuel = run env fuel := funext fun f => funext fun cur => funext fun c => funext fun st => runF_eq env fuel f cur c st
    show codeF c env (runF env fuel) f cur st = _
    rw [hk]
    cases c <;> try rfl
    case region id ops drawn =>
      show (runRegionF env (callIn env (run env fuel)) ops drawn st).bind (fun l => .ok (normals l)) = _
      rw [runRegionF_eq]; rfl
    case seq a b =>
      show bindR (run env fuel f cur a st) (andThenF (run env fuel f cur b)) = (run env fuel f cur a st).bind (andThen (run env fuel f cur b))
      rw [bindR_eq, funext (andThenF_eq _)]
    case cond x a b =>
      refine knownB_eq rfl fun v hv => ?_
      have h1 : run env (fuel + 1) f cur (.cond x a b) st = bothWays (fun t s => run env fuel f cur (bif t then a else b) s) st [(v, st.ctx)] := by
        simp only [run, hv, split, decide?]; rfl
      rw [h1]
      show _ = (run env fuel f cur (bif v then a else b) st).bind fun a => .ok (a ++ [])
      rw [app_nil]
      cases v <;> rfl
    case block id a =>
      exact bindR_eq _ _
    case loop body =>
      show loopF env (run env fuel) f cur body st = _
      cases hi : env.invs f cur with
      | nil => simp only [loopF, run, hi, bindR_eq, funext (andThenF_eq _)]
      | cons d ds => simp only [loopF, run, hi]; rfl
theorem checkF_eq (env : Env) (fuel f : Nat) (c : Contract) : checkF env fuel f c = checkContract env fuel f c := by
  unfold checkF checkContract
  simp only [runF_eq]
  rfl
end
end Go.Hal
namespace Go.Hal
open Go Go.Proofs
noncomputable section
def w0 : Nat → List Contract := fun _ => []
def noInv : Nat → Nat → List Disj := fun _ _ => []
abbrev ConsOk (cons : Nat → List Contract) : Prop := ∀ g, ∀ c ∈ cons g, CSound Tryz.prog g c ∧ c.wf = true
theorem none_ok : ConsOk w0 := fun g c h => by cases h
theorem more_ok {cons : Nat → List Contract} (h : ConsOk cons) {f : Nat} {l : List Contract} (hl : ∀ c ∈ l, CSound Tryz.prog f c ∧ c.wf = true) : ConsOk (fun g => bif Nat.beq g f then l else cons g) := fun g c hc0 => by
  have hc : c ∈ (bif Nat.beq g f then l else cons g) := hc0
  clear hc0
  cases hb : Nat.beq g f
  · rw [hb] at hc; exact h g c hc
  · rw [hb] at hc
    obtain rfl := (beq_iff _ _).1 hb
    exact hl c hc
theorem more1 {cons : Nat → List Contract} (h : ConsOk cons) {f : Nat} {c : Contract} (hl : CSound Tryz.prog f c ∧ c.wf = true) : ConsOk (fun g => bif Nat.beq g f then [c] else cons g) :=
  more_ok h fun d hd => by obtain rfl := List.mem_singleton.1 hd; exact hl
/-- a contract that the kernel has run by the fast way holds -/
theorem fast_ok {cons : Nat → List Contract} {invs : Nat → Nat → List Disj} (hK : ConsOk cons) {fuel f : Nat} {c : Contract} (h : checkF (envE cons invs) fuel f c = .ok ()) : CSound Tryz.prog f c ∧ c.wf = true :=
  con_ok hK (by rw [← checkF_eq]; exact h)
end
end Go.Hal
