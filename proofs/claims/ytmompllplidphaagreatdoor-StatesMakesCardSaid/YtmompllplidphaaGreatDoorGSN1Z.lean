/- Part of the proofs over this seat: see the text that holds the theorem. Conditions: each theorem bears its own. -/
import Derived.Test.YtmompllplidphaaGreatDoorHTZ
import Derived.Test.YtmompllplidphaaGreatDoorMC9Z
import Derived.Test.YtmompllplidphaaGreatDoorHlB
import Derived.Test.YtmompllplidphaaGreatDoorGB1Z
namespace Go.HL.Kl.Mc
open Go Go.HL Go.HL.Kl
def zN:Nd:=⟨0,0,0,0,0,0⟩
theorem gI:En zN = [.int .i8 0,.int .u64 0,.int .u64 0,.int .u64 0,.int .u64 0,.int .i64 0,.int .i64 0,.int .i64 0,.int .i64 0]:=by
 show _::(Ec 0#256++_)=_
 rw[bk];rfl
def zr (x:Nd):Nd:=⟨0,if x.op=1 then 0 else x.set,if x.op=7∨x.op=8 then 0 else x.n,if x.op=6 then 0 else x.mn,if x.op=6 then 0 else x.mx,0⟩
theorem JF {x:Nd}:zr x=zN↔(x.op=1∨x.set=0)∧(x.op=7∨x.op=8∨x.n=0)∧(x.op=6∨x.mn=0∧x.mx=0):=by
 simp only[zr,zN,Nd.mk.injEq,true_and,and_true]
 by_cases h1:x.op=1
 · simp[h1]
 by_cases h6:x.op=6
 · simp[h6]
 by_cases h7:x.op=7
 · simp[h7]
 by_cases h8:x.op=8
 · simp[h8]
 · simp[h1,h6,h7,h8]
theorem N3 {x:Nd}(h:zr x≠zN):eH x=false:=by
 cases hb:eH x
 · rfl
 exfalso
 apply h
 rw[JF]
 simp only[eH,sJ,Bool.and_eq_true,Bool.or_eq_true,decide_eq_true_eq] at hb
 obtain⟨⟨⟨⟨_,h1⟩,h2⟩,h3⟩,_⟩:=hb
 refine⟨h1,by rcases h2 with h2|h2 <;> omega,?_⟩
 by_cases h6:x.op=6
 · exact .inl h6
 · rw[if_neg h6] at h3;simp at h3;exact .inr h3
theorem AI {x:Nd}(h1:1≤x.op∧x.op≤8)(h2:x.op=6→0≤x.mn∧x.mn≤255∧(x.mx = -1∨x.mn≤x.mx∧x.mx≤255))(hz:zr x=zN):eH x=gi x:=by
 rw[JF] at hz
 obtain⟨a,b,c⟩:=hz
 have:sJ x=true:=by
   simp only[sJ,Bool.and_eq_true,Bool.or_eq_true,decide_eq_true_eq]
   refine⟨⟨⟨h1,a⟩,by omega⟩,?_⟩
   by_cases h6:x.op=6
   · rw[if_pos h6];simpa using h2 h6
   · rw[if_neg h6];simp;omega
 rw[eH,this,Bool.true_and]
theorem pV {x:Nd}(h6:x.op=6)(h:¬ (0≤x.mn∧x.mn≤255∧(x.mx = -1∨x.mn≤x.mx∧x.mx≤255))):eH x=false:=by
 cases hb:eH x
 · rfl
 · exact absurd (uO hb h6) h
theorem N4 {x:Nd}(h:¬ (1≤x.op∧x.op≤8)):eH x=false:=by
 rw[eH,sJ,decide_eq_false h];simp
end Go.HL.Kl.Mc
namespace Go.Proofs.YtmompllplidphaaGreatDoor
open Go Go.HL Go.Proofs Go.HL.Kl Go.HL.Kl.Mc
set_option maxHeartbeats 1000000 in
theorem N5 (x:Nd):HL.Fn Tryz.prog 133 [.agg (En x).toArray] (fun _=>True) [] (fun v _=>v = .bool (eH x)):=by
 refine aW Tryz.func133 rfl rfl rfl fun w0 hw=>?_;refine cR fun _ bI=>?_;refine cB rfl rfl rfl fun b1=>?_;refine oA (oZ bI (cR fun _ bJ=>?_));refine oS (aD rfl (aI.aO (.own aV)) aS) ?_;refine aB (l:=En zN) (by rw[gI];rfl) rfl fun b3=>?_;refine bf rfl rfl bY aS aS fE ?_;refine oZ bJ (cR fun _ bK=>?_);refine oS sF ?_;refine bg rfl rfl rfl bY kD rfl ?_
 rw[show (En x).set 0 (.int .i8 0)=En (⟨0,x.set,x.n,x.mn,x.mx,x.kids⟩:Nd) from rfl]
 refine oS sF ?_;refine bg rfl rfl rfl bY kD rfl ?_
 rw[show (En (⟨0,x.set,x.n,x.mn,x.mx,x.kids⟩:Nd)).set 8 (.int .i64 0)=En (⟨0,x.set,x.n,x.mn,x.mx,0⟩:Nd) from rfl]
 refine oZ bK ?_;refine fU (ι:=Unit) (fun g=>(1≤x.op∧x.op≤8)∧(x.op=6→0≤x.mn∧x.mn≤255∧(x.mx = -1∨x.mn≤x.mx∧x.mx≤255))) (fun g=>[]) [(1,_),(3,_)] (fun g=>[(b3,.cells (En (zr x)).toArray 42 (0,0)),(b1,.cells (En x).toArray 42 (0,0))]) aH ?_ ?_
 ·rintro g hI
  refine ah fun _ bT=>?_;refine cR fun _ bZ=>?_;refine oS (aD rfl (aI.aO (.own aV)) aS) ?_;refine oS (ab (v':=.agg (En zN).toArray) (bG (cs:=[_,_,_,_,_,_,_,_,_]) (vs:=[]) rfl rfl .nil) (by rw[gI])) ?_
  by_cases hz:zr x≠zN
  ·refine oS (ab (v':=.bool true) (uP rfl rfl) (by rw[decide_eq_false hz];rfl)) ?_;refine oZ bZ ?_;refine cT (cR fun _ cj=>?_);refine oA (oZ cj (aA ?_));refine aj (?_);exact xR rfl rfl ((congrArg Value.bool (N3 hz).symm))
  ·have hk:=AI hI.1 hI.2 (Decidable.not_not.1 hz)
   unfold gi at hk
   refine oS (ab (v':=.bool false) (uP rfl rfl) (by rw[decide_eq_true (Decidable.not_not.1 hz)];rfl)) ?_;refine oZ bZ ?_;refine eL bT (ah fun _ ck=>?_);refine cR fun _ cQ=>?_;refine oS sF ?_;refine oS sL (oZ cQ (ai (ah fun _ bw=>?_)));refine cR fun _ bF=>?_
   by_cases k6:x.op=6
   ·refine oS (ij (h:=k6)) ?_;refine oA (oZ bF ?_);refine gp bw ?_;refine cT (cR fun _ bD=>?_);refine oS sF ?_;refine oS sL ?_;refine oS (bO rfl rfl) ?_;refine oA (oZ bD (aA ?_));refine aw (aj (?_))
    exact xR rfl rfl ((congrArg Value.bool (by rw[hk,if_pos (.inl k6)])))
   ·refine oS (ik (h:=k6)) ?_;refine oA (oZ bF ?_);refine cF (ae ?_)
    by_cases k7:x.op=7
    ·refine oS (ij (h:=k7)) ?_;refine oA (oZ bw ?_);refine cT (cR fun _ cb=>?_);refine oS sF ?_;refine oS sL ?_;refine oS (bO rfl rfl) ?_;refine oA (oZ cb (aA ?_));refine aw (aj (?_))
     exact xR rfl rfl ((congrArg Value.bool (by rw[hk,if_pos (.inr k7)])))
    ·refine oS (ik (h:=k7)) ?_;refine oA (oZ bw ?_);refine cF (cR fun _ bL=>?_)
     by_cases k5:x.op=5
     ·refine oS (ij (h:=k5)) ?_;refine oA (oZ bL ?_);refine cT (cR fun _ bQ=>?_);refine oS sF ?_;refine oS sL ?_;refine oS (iH rfl rfl) ?_;refine oA (oZ bQ (aA ?_));refine aw (aj (?_))
      exact xR rfl rfl ((congrArg Value.bool (by rw[hk,if_neg (by omega),if_neg (by omega),if_pos k5])))
     ·refine oS (ik (h:=k5)) ?_;refine oA (oZ bL ?_);refine cF (cR fun _ cO=>?_)
      by_cases k4:x.op=4
      ·refine oS (ij (h:=k4)) ?_;refine oA (oZ cO ?_);refine cT (cR fun _ df=>?_);refine oS sF ?_;refine oS sL ?_
       by_cases k0:x.kids=0
       ·refine oS ij (oM ?_);refine oN ?_;refine oN ?_;refine oN ?_;refine oS sT (oA (oZ df (aA ?_)));refine aw (aj (?_))
        exact xR rfl rfl ((congrArg Value.bool (by rw[hk,if_neg (by omega),if_pos k4,decide_eq_true (by omega)])))
       ·refine oS ik (oM ?_);refine oY ?_;refine oS sF ?_;refine oY ?_;refine oS sL ?_;refine oY ?_;refine oS (iH rfl rfl) ?_;refine oS sP (oA (oZ df (aA ?_)));refine aw (aj (?_))
        exact xR rfl rfl ((congrArg Value.bool (by rw[hk,if_neg (by omega),if_pos k4];exact decide_eq_decide.2 (by omega))))
      ·refine oS (ik (h:=k4)) ?_;refine oA (oZ cO ?_);refine cF (ax (aq (xZ ck (cR fun _ cZ=>?_))));refine oS sF ?_;refine oS sL ?_;refine oS (bO rfl rfl) ?_;refine oA (oZ cZ (aA ?_));refine ?_;exact xR rfl rfl ((congrArg Value.bool (by rw[hk,if_neg (by omega),if_neg (by omega),if_neg (by omega)])))
 ·intro _ N6
  refine cR fun _ dq=>?_;refine oS sF ?_;refine oS sL (oZ dq (ai (cR fun _ dG=>?_)))
  by_cases h1:x.op=1
  ·refine oS (ij (h:=h1)) ?_;refine oA (oZ dG ?_);refine cT (ae ?_);refine oS (ab (v':=.agg (Ec 0#256).toArray) (fX rfl) (by rw[bk];rfl)) ?_;refine oS sF ?_;refine fK (l:=En (⟨0,x.set,x.n,x.mn,x.mx,0⟩:Nd)) (cs:=Ec 0#256) rfl rfl rfl (eB.one _) bY (Nat.le_of_ble_eq_true rfl) (fun _ _=>sG) ?_
   rw[show bP (En (⟨0,x.set,x.n,x.mn,x.mx,0⟩:Nd)) 1 (Ec 0#256)=En (⟨0,0,x.n,x.mn,x.mx,0⟩:Nd) from rfl]
   refine ak (aq ?_)
   rw[show (⟨0,0,x.n,x.mn,x.mx,0⟩:Nd)=zr x by rw[zr,if_pos h1,if_neg (by omega),if_neg (by omega),if_neg (by omega)]]
   exact av (N6 () _ _ ⟨by omega,fun h=>absurd h (by omega)⟩ aH aH aP)
  ·refine oS (ik (h:=h1)) ?_;refine oA (oZ dG ?_);refine cF (ah fun _ eb=>?_);refine cR fun _ dL=>?_
   by_cases h7:x.op=7
   ·refine oS (ij (h:=h7)) ?_;refine oA (oZ dL ?_);refine gp eb ?_;refine cT (ae ?_);refine oS sF ?_;refine bg rfl rfl rfl bY kD rfl ?_
    rw[show (En (⟨0,x.set,x.n,x.mn,x.mx,0⟩:Nd)).set 5 (.int .i64 0)=En (⟨0,x.set,0,x.mn,x.mx,0⟩:Nd) from rfl]
    refine ak (aq ?_)
    rw[show (⟨0,x.set,0,x.mn,x.mx,0⟩:Nd)=zr x by rw[zr,if_neg (by omega),if_pos (.inl h7),if_neg (by omega),if_neg (by omega)]]
    exact av (N6 () _ _ ⟨by omega,fun h=>absurd h (by omega)⟩ aH aH aP)
   ·refine oS (ik (h:=h7)) ?_;refine oA (oZ dL ?_);refine cF (ae ?_)
    by_cases h8:x.op=8
    ·refine oS (ij (h:=h8)) ?_;refine oA (oZ eb ?_);refine cT (ae ?_);refine oS sF ?_;refine bg rfl rfl rfl bY kD rfl ?_
     rw[show (En (⟨0,x.set,x.n,x.mn,x.mx,0⟩:Nd)).set 5 (.int .i64 0)=En (⟨0,x.set,0,x.mn,x.mx,0⟩:Nd) from rfl]
     refine ak (aq ?_)
     rw[show (⟨0,x.set,0,x.mn,x.mx,0⟩:Nd)=zr x by rw[zr,if_neg (by omega),if_pos (.inr h8),if_neg (by omega),if_neg (by omega)]]
     exact av (N6 () _ _ ⟨by omega,fun h=>absurd h (by omega)⟩ aH aH aP)
    ·refine oS (ik (h:=h8)) ?_;refine oA (oZ eb ?_);refine cF (cR fun _ dR=>?_)
     by_cases h6:x.op=6
     ·refine oS (ij (h:=h6)) ?_;refine oA (oZ dR ?_);refine cT (ah fun _ dk=>?_);refine cR fun _ dE=>?_;refine oS sF ?_;refine oS sL ?_
      by_cases wj:x.mn<0
      ·refine oS wg (oM ?_);refine oN ?_;refine oN ?_;refine oN ?_;refine oS sT (oM ?_);refine oN ?_;refine oN ?_;refine oN ?_;refine oN ?_;refine oU ?_;refine oU ?_;refine oU ?_;refine oU ?_;refine oU ?_;refine oU ?_;refine oU ?_;refine oU ?_;refine oU ?_;refine oU ?_;refine oN ?_;refine oS sT (oZ dE ?_);refine cT (cR fun _ dS=>?_);refine oA (oZ dS (aA ?_));refine aj (aw (aj (?_)))
       exact xR rfl rfl ((congrArg Value.bool (pV h6 (by omega)).symm))
      ·refine oS wh (oM ?_);refine oY ?_;refine oS sF ?_;refine oY ?_;refine oS sL ?_;refine oY ?_
       by_cases EU:x.mn>255
       ·refine oS Gp ?_;refine oS sP (oM ?_);refine oN ?_;refine oN ?_;refine oN ?_;refine oN ?_;refine oU ?_;refine oU ?_;refine oU ?_;refine oU ?_;refine oU ?_;refine oU ?_;refine oU ?_;refine oU ?_;refine oU ?_;refine oU ?_;refine oN ?_;refine oS sT (oZ dE ?_);refine cT (cR fun _ dW=>?_);refine oA (oZ dW (aA ?_));refine aj (aw (aj (?_)))
        exact xR rfl rfl ((congrArg Value.bool (pV h6 (by omega)).symm))
       ·refine oS Gq ?_;refine oS sP (oM ?_);refine oY ?_;refine oS sF ?_;refine oY ?_;refine oS sL ?_;refine oY ?_
        by_cases hm3:x.mx≠-1
        ·refine oS N7 ?_;refine oY (oM ?_);refine oY ?_;refine oS sF ?_;refine oY ?_;refine oS sL ?_;refine oY ?_;refine oS sF ?_;refine oY ?_;refine oS sL ?_;refine oY ?_
         by_cases hm4:x.mx<x.mn
         ·refine oS wg ?_;refine oY (oM ?_);refine oN ?_;refine oN ?_;refine oN ?_;refine oY ?_;refine oS sT ?_;refine oY ?_;refine oS sT ?_;refine oS sP (oZ dE ?_);refine cT (cR fun _ ee=>?_);refine oA (oZ ee (aA ?_));refine aj (aw (aj (?_)))
          exact xR rfl rfl ((congrArg Value.bool (pV h6 (by omega)).symm))
         ·refine oS wh ?_;refine oY (oM ?_);refine oY ?_;refine oS sF ?_;refine oY ?_;refine oS sL ?_;refine oY ?_
          by_cases hm5:x.mx>255
          ·refine oS Gp ?_;refine oY ?_;refine oS sP ?_;refine oY ?_;refine oS sT ?_;refine oS sP (oZ dE ?_);refine cT (cR fun _ eh=>?_);refine oA (oZ eh (aA ?_));refine aj (aw (aj (?_)))
           exact xR rfl rfl ((congrArg Value.bool (pV h6 (by omega)).symm))
          ·refine oS Gq ?_;refine oY ?_;refine oS sP ?_;refine oY ?_;refine oS sT ?_;refine oS sP (oZ dE ?_);refine eL dk (ae ?_);refine oS sF ?_;refine bg rfl rfl rfl bY kD rfl ?_
           rw[show (En (⟨0,x.set,x.n,x.mn,x.mx,0⟩:Nd)).set 6 (.int .i64 0)=En (⟨0,x.set,x.n,0,x.mx,0⟩:Nd) from rfl]
           refine oS sF ?_;refine bg rfl rfl rfl bY kD rfl ?_
           rw[show (En (⟨0,x.set,x.n,0,x.mx,0⟩:Nd)).set 7 (.int .i64 0)=En (⟨0,x.set,x.n,0,0,0⟩:Nd) from rfl]
           refine ak (aq ?_)
           rw[show (⟨0,x.set,x.n,0,0,0⟩:Nd)=zr x by rw[zr,if_neg (by omega),if_neg (by omega),if_pos h6,if_pos h6]]
           exact av (N6 () _ _ ⟨by omega,fun h=>by omega⟩ aH aH aP)
        ·refine oS N8 ?_;refine oY (oM ?_);refine oN ?_;refine oN ?_;refine oN ?_;refine oN ?_;refine oN ?_;refine oN ?_;refine oU ?_;refine oU ?_;refine oU ?_;refine oN ?_;refine oY ?_;refine oS sP ?_;refine oS sP (oZ dE ?_);refine eL dk (ae ?_);refine oS sF ?_;refine bg rfl rfl rfl bY kD rfl ?_
         rw[show (En (⟨0,x.set,x.n,x.mn,x.mx,0⟩:Nd)).set 6 (.int .i64 0)=En (⟨0,x.set,x.n,0,x.mx,0⟩:Nd) from rfl]
         refine oS sF ?_;refine bg rfl rfl rfl bY kD rfl ?_
         rw[show (En (⟨0,x.set,x.n,0,x.mx,0⟩:Nd)).set 7 (.int .i64 0)=En (⟨0,x.set,x.n,0,0,0⟩:Nd) from rfl]
         refine ak (aq ?_)
         rw[show (⟨0,x.set,x.n,0,0,0⟩:Nd)=zr x by rw[zr,if_neg (by omega),if_neg (by omega),if_pos h6,if_pos h6]]
         exact av (N6 () _ _ ⟨by omega,fun h=>by omega⟩ aH aH aP)
     ·refine oS (ik (h:=h6)) ?_;refine oA (oZ dR ?_);refine cF (ah fun _ eD=>?_);refine cR fun _ dN=>?_
      by_cases h2:x.op=2
      ·refine oS (ij (h:=h2)) ?_;refine oA (oZ dN ?_);refine gp eD ?_;refine cT (ax (aq ?_))
       rw[show (⟨0,x.set,x.n,x.mn,x.mx,0⟩:Nd)=zr x by rw[zr,if_neg (by omega),if_neg (by omega),if_neg (by omega),if_neg (by omega)]]
       exact av (N6 () _ _ ⟨by omega,fun h=>absurd h (by omega)⟩ aH aH aP)
      ·refine oS (ik (h:=h2)) ?_;refine oA (oZ dN ?_);refine cF (cR fun _ e6=>?_)
       by_cases h3:x.op=3
       ·refine oS (ij (h:=h3)) ?_;refine oA (oZ e6 ?_);refine gp eD ?_;refine cT (ax (aq ?_))
        rw[show (⟨0,x.set,x.n,x.mn,x.mx,0⟩:Nd)=zr x by rw[zr,if_neg (by omega),if_neg (by omega),if_neg (by omega),if_neg (by omega)]]
        exact av (N6 () _ _ ⟨by omega,fun h=>absurd h (by omega)⟩ aH aH aP)
       ·refine oS (ik (h:=h3)) ?_;refine oA (oZ e6 ?_);refine cF (cR fun _ du=>?_)
        by_cases h4:x.op=4
        ·refine oS (ij (h:=h4)) ?_;refine oA (oZ du ?_);refine gp eD ?_;refine cT (ax (aq ?_))
         rw[show (⟨0,x.set,x.n,x.mn,x.mx,0⟩:Nd)=zr x by rw[zr,if_neg (by omega),if_neg (by omega),if_neg (by omega),if_neg (by omega)]]
         exact av (N6 () _ _ ⟨by omega,fun h=>absurd h (by omega)⟩ aH aH aP)
        ·refine oS (ik (h:=h4)) ?_;refine oA (oZ du ?_);refine cF (ae ?_)
         by_cases h5:x.op=5
         ·refine oS (ij (h:=h5)) ?_;refine oA (oZ eD ?_);refine cT (ax (aq ?_))
          rw[show (⟨0,x.set,x.n,x.mn,x.mx,0⟩:Nd)=zr x by rw[zr,if_neg (by omega),if_neg (by omega),if_neg (by omega),if_neg (by omega)]]
          exact av (N6 () _ _ ⟨by omega,fun h=>absurd h (by omega)⟩ aH aH aP)
         ·refine oS (ik (h:=h5)) ?_;refine oA (oZ eD ?_);refine cF (cR fun _ fF=>?_);refine oA (oZ fF (aA ?_));refine aw (aj (?_))
          exact xR rfl rfl ((congrArg Value.bool (N4 (by omega)).symm))
end Go.Proofs.YtmompllplidphaaGreatDoor
namespace Go.Proofs.YtmompllplidphaaGreatDoor
open Go Go.HL Go.Proofs Go.Af Go.HL.Kl Go.HL.Kl.Mc Go.HL.cm
theorem bC (k i:Nat)(hk:k≤1000)(hi:i≤8589934592):HL.Fn Tryz.prog 28 [.int .i64 k,.int .i64 i] (fun _=>True) [] (fun v _=>v = .int .i64 ((1048576*k+i+1:Nat):Int)):=by
 refine aW Tryz.func28 rfl rfl rfl fun w0 hw=>?_;refine cR fun _ bI=>?_;refine oA (oZ bI (cR fun _ bJ=>?_));refine oM ?_;refine oS (vc rfl rfl (by omega)) ?_;refine oM ?_;refine oS sD ?_;refine oS sD (oA (oZ bJ (aA ?_)));refine ?_;exact xR rfl rfl ((congrArg (Value.int .i64) (by omega)))
set_option maxHeartbeats 1000000 in
theorem yB (b:Nat)(cs:List Value)(sls:List (Sl Int))(oa:Option Addr)(oc:Nat)(So Si:Hp)(hb:cs[1]?=some (.slice oa sls.length oc))(hN:sls.length≤400)(hlen:∀ (j:Nat)(s:Sl Int),sls[j]?=some s→s.xs.length≤4294967296)(hO:aG cX 1 36 (.slice oa sls.length oc) sls So)(yT:List (List Int))(hI:cG Ei 1 3 sls yT Si):HL.Fn Tryz.prog 51 [.pointer (some ⟨b,0,none⟩)] (fun _=>True) ((b,.cells cs.toArray 63 (0,0))::(So++Si)) (fun v S'=>v = .bool true∧S'=(b,.cells cs.toArray 63 (0,0))::So):=by
 refine aW Tryz.func51 rfl rfl rfl fun w0 hw=>?_
 have gu:=hO.sl
 refine cR fun _ bI=>?_;refine oA (oZ bI (ah fun _ bJ=>?_));refine cR fun _ bK=>?_;refine oA (oZ bK (ai ?_));refine dt (fun (n:Nat)(dO:List (List Int))(Si:Hp)=>n≤sls.length∧cG Ei 1 3 sls dO Si∧∀ j s,j<n→sls[j]?=some s→dO[j]?=some (j9 kP j s.xs.length)) (fun (n:Nat)(dO:List (List Int))(Si:Hp)=>[(3,.int .i64 n)]) [(0,_),(2,_)] (fun (n:Nat)(dO:List (List Int))(Si:Hp)=>(b,.cells cs.toArray 63 (0,0))::(So++Si)) (fun (n:Nat)(dO:List (List Int))(Si:Hp)=>sls.length-n) 0 _ _ ⟨by omega,hI,fun j s hj=>by omega⟩ aH aH aP ?_
 rintro n dO Si ⟨hn,hI,hA⟩
 refine ah fun _ bU=>?_;refine cR fun _ bT=>?_;refine oM (oM ?_);refine oS sN ?_;refine oS sF ?_;refine oS (az rfl (.own aV hb)) ?_;refine oS sC ?_;refine oS (aF rfl rfl) ?_;refine oZ bT ?_;refine cx rfl (fun cH=>?_) (fun cH=>?_)
 ·obtain⟨s,hs⟩:=kx (sls:=sls) (n:=n) (by omega)
  obtain⟨xs,S1,Xi,S2,hx,rfl,qG,q8⟩:=hI.at hs
  have mH:=qG.uF
  have jr:=hlen n s hs
  refine ax (xZ bU (ah fun _ bZ=>?_));refine ai (cR fun _ cj=>?_);refine oA (oZ cj (ai ?_));refine dt (fun (i:Nat)(l:List Int)(Sn:Hp)=>i≤s.xs.length∧Af.pJ (kP n) s.xs.length i l∧aG Ei 1 3 s.v l Sn) (fun (i:Nat)(l:List Int)(Sn:Hp)=>[(4,.int .i64 i)]) [(0,_),(2,_),(3,_),(14,_),(15,_),(16,_),(17,_),(18,_),(19,_),(20,_)] (fun (i:Nat)(l:List Int)(Sn:Hp)=>(b,.cells cs.toArray 63 (0,0))::(So++(S1++(Sn++S2)))) (fun (i:Nat)(l:List Int)(Sn:Hp)=>s.xs.length-i) 0 _ _ ⟨by omega,.zero mH,qG⟩ aH aH aP ?_
  rintro i l Sn ⟨hi,hl,nT⟩
  have o9:=nT.uF
  have mE:=nT.sl
  rw[o9] at mE
  refine ah fun _ ck=>?_;refine cR fun _ cQ=>?_;refine oM (oM ?_);refine oS sN ?_;refine oS sF ?_;refine oS (az rfl (.own aV hb)) ?_;refine oM ?_;refine oS (au rfl rfl gu (by omega)) ?_;refine oS (az rfl ((hO.aU aM).ld n 0 hs rfl (by decide) (by omega))) ?_;refine oS sC ?_;refine oS (aF rfl rfl) ?_;refine oZ cQ ?_;refine cx rfl (fun pQ=>?_) (fun pQ=>?_)
  ·refine ax (xZ ck (ah fun _ bw=>?_));refine ai ?_;refine aK ((b,.cells cs.toArray 63 (0,0))::So) (fun i=>false) ?_;refine eK 0 rfl sM ?_;refine eK 1 rfl sN ?_;refine eK 2 rfl sF ?_;refine eK 3 rfl (az rfl (.own aV hb)) ?_;refine eK 4 rfl sM ?_;refine eK 5 rfl (au rfl rfl gu (by omega)) ?_;refine eK 6 rfl (az rfl ((hO.aU aM).ld n 0 hs rfl (by decide) (by omega))) ?_;refine eK 7 rfl sM ?_;refine eK 8 rfl sM ?_;refine eK 9 rfl sM (eO 10 rfl ?_);refine ar (bC n i (by omega) (by omega)) rfl rfl rfl (fun _ _=>trivial) (fun v45 yU=>?_);subst yU
   refine oX ?_;refine eK 11 rfl (au rfl rfl mE (by omega)) ?_;refine eO 12 rfl ?_;refine dp i (kP n i) nT bh rfl rfl rfl (by omega) (by first|rfl|(rw[Int.toNat_natCast,Nat.mul_one];first|done|rfl)) fun S' wH=>?_;refine oX ?_;refine cw (by kernel_rfl) ?_;refine aq (xZ bw (ae (oM ?_)));refine oS sD (oA (ak ?_));exact xI (i+1,_,S') ⟨by omega,hl.step (by omega) rfl,wH⟩
  ·refine ay ?_;refine ad (ad (ag (aq (xZ bZ (ae (oM ?_))))));refine oS sD (oA (ak ?_));exact xI (n+1,dO.set n l,S1++(Sn++S2)) ⟨by omega,q8 _ _ nT,tp hA hs (pR hl (by omega)) hx⟩
 ·have hF:ov Ei 1 3 kP 0 (sls.drop 0) Si:=hI.all (n:=0) (fun j s hs=>by rw[Nat.zero_add];exact hA j s (by have:=(List.getElem?_eq_some_iff.1 hs).1;omega) hs)
  refine ay ?_;refine ad (ad (ag (xZ bJ (cR fun _ bF=>?_))));refine oA (oA (oZ bF (ah fun _ bD=>?_)));refine cR fun _ cb=>?_;refine oA (oZ cb (ai ?_));refine lL (fun (n:Nat)(q1:Sl (Sl Int))(q2:Sl (Sl Int))(P1:Hp)(P2:Hp)(G:Hp)(R:Hp)=>n≤sls.length∧q1.xs.length=n∧q2.xs.length=n∧aG cX 1 36 (.slice q1.a q1.xs.length q1.c) q1.xs P1∧aG cX 1 36 (.slice q2.a q2.xs.length q2.c) q2.xs P2∧ov Ei 1 3 kP n (sls.drop n) R∧yV Ei kP sls q1.xs q2.xs G n) (fun (n:Nat)(q1:Sl (Sl Int))(q2:Sl (Sl Int))(P1:Hp)(P2:Hp)(G:Hp)(R:Hp)=>[(7,.int .i64 n),(5,.slice q1.a q1.xs.length q1.c),(6,.slice q2.a q2.xs.length q2.c)]) [(0,_),(2,_)] (fun (n:Nat)(q1:Sl (Sl Int))(q2:Sl (Sl Int))(P1:Hp)(P2:Hp)(G:Hp)(R:Hp)=>(b,.cells cs.toArray 63 (0,0))::(So++(P1++(P2++(G++R))))) (fun (n:Nat)(q1:Sl (Sl Int))(q2:Sl (Sl Int))(P1:Hp)(P2:Hp)(G:Hp)(R:Hp)=>sls.length-n) 0 ⟨none,0,[]⟩ ⟨none,0,[]⟩ [] [] [] _ ⟨by omega,rfl,rfl,.nil,.nil,hF,.zero⟩ aH aH aP ?_
  rintro n q1 q2 P1 P2 G R ⟨hn,Jy,MX,tr,ka,hR,hD⟩
  refine ah fun _ bL=>?_;refine cR fun _ bQ=>?_;refine oM (oM ?_);refine oS sN ?_;refine oS sF ?_;refine oS (az rfl (.own aV hb)) ?_;refine oS sC ?_;refine oS (aF rfl rfl) ?_;refine oZ bQ ?_;refine cx rfl (fun cH=>?_) (fun cH=>?_)
  ·obtain⟨s,hs⟩:=kx (sls:=sls) (n:=n) (by omega)
   have jr:=hlen n s hs
   obtain⟨Sa,R2,rfl,GM,EP⟩:=hR.head hs
   have CQ:(Value.slice s.a (j9 kP n s.xs.length).length s.c)=s.v:=by rw[db];rfl
   have pS:=GM.sl
   rw[db] at pS
   refine ax (xZ bL (ah fun _ cO=>?_));refine ai (cR fun _ df=>?_);refine oM ?_;refine oS sN ?_;refine oS sF ?_;refine oS (az rfl (.own aV hb)) ?_;refine oM ?_;refine oS (au rfl rfl gu (by omega)) ?_;refine oS (az rfl ((hO.aU aM).ld n 0 hs rfl (by decide) (by omega))) ?_;refine oA (oZ df (ah fun _ cZ=>?_));refine cR fun _ dq=>?_;refine oM ?_;refine oS sC (oA (oZ dq (ai ?_)));refine lV (fun (i:Nat)(l:List Int)(la:Option Addr)(lc:Nat)(q3:Sl (Sl Int))(P3:Hp)(Sk:Hp)(Gk:Hp)=>s.xs.length≤i∧i≤s.xs.length+70∧l=j9 kP n i∧gq Ei 1 3 s.v (j9 kP n s.xs.length) (.slice la l.length lc) l Sk Gk∧aG cX 1 36 (.slice q3.a q3.xs.length q3.c) q3.xs P3∧((i=s.xs.length∧q3.xs=q1.xs)∨(s.xs.length<i∧∃ o,q3.xs=q1.xs++[o]∧o.xs=j9 kP n (s.xs.length+1)∧eA o.v o.xs.length∧gq Ei 1 3 o.v o.xs (.slice la l.length lc) l Sk Gk))) (fun (i:Nat)(l:List Int)(la:Option Addr)(lc:Nat)(q3:Sl (Sl Int))(P3:Hp)(Sk:Hp)(Gk:Hp)=>[(9,.int .i64 i),(8,.slice la l.length lc),(5,.slice q3.a q3.xs.length q3.c)]) [(0,_),(2,_),(6,_),(7,_),(47,_),(48,_),(49,_),(50,_),(51,_),(52,_),(53,_),(56,_),(57,_),(58,_),(59,_),(60,_),(61,_),(62,_),(63,_),(64,_)] (fun (i:Nat)(l:List Int)(la:Option Addr)(lc:Nat)(q3:Sl (Sl Int))(P3:Hp)(Sk:Hp)(Gk:Hp)=>(b,.cells cs.toArray 63 (0,0))::(So++(P3++(P2++(Sk++(Gk++(G++R2))))))) (fun (i:Nat)(l:List Int)(la:Option Addr)(lc:Nat)(q3:Sl (Sl Int))(P3:Hp)(Sk:Hp)(Gk:Hp)=>s.xs.length+70-i) s.xs.length (j9 kP n s.xs.length) s.a s.c q1 P1 Sa [] ⟨by omega,by omega,rfl,by rw[CQ];exact gq.start GM,tr,.inl ⟨rfl,rfl⟩⟩ (by exact Sub.cons rfl (Sub.fY rfl (by rw[db];rfl) (Sub.cons rfl .nil))) aH aP ?_
   rintro i l la lc q3 P3 Sk Gk ⟨N0,Ie,hl,hK,yW,hc⟩
   have o9:l.length=i:=by rw[hl,db]
   refine ah fun _ dG=>?_;refine cR fun _ eb=>?_;refine oM (oM ?_);refine oS sN ?_;refine oS sF ?_;refine oS (az rfl (.own aV hb)) ?_;refine oM ?_;refine oS (au rfl rfl gu (by omega)) ?_;refine oS (az rfl ((hO.aU aM).ld n 0 hs rfl (by decide) (by omega))) ?_;refine oS sC ?_;refine oS sD ?_;refine oS (aF rfl rfl) ?_;refine oZ eb ?_;refine cx rfl (fun pQ=>?_) (fun pQ=>?_)
   ·refine ax (xZ dG (ah fun _ dL=>?_));refine ai (cR fun _ dR=>?_);refine oM (oM (oM ?_));refine ar (bC n i (by omega) (by omega)) rfl rfl rfl (fun _ _=>trivial) (fun v81 agD=>?_);subst agD
    refine ct (E:=Ei) (xs:=[kP n i]) (vs:=[_]) rfl rfl rfl rfl rfl (by decide) (by decide) fun b82 S82 agE=>?_;refine uH hK.own (agE.aU aM) rfl rfl rfl rfl (by simp only[List.length_singleton];omega) (by simp only[List.length_singleton];omega) rfl bh fun a83 c83 US G83 sV Vc=>?_;refine oA (oZ dR (cR fun _ dk=>?_));refine oM (oM ?_);refine oS sN ?_;refine oS sF ?_;refine oS (az rfl (.own aV hb)) ?_;refine oM ?_;refine oS (au rfl rfl gu (by omega)) ?_;refine oS (az rfl ((hO.aU aM).ld n 0 hs rfl (by decide) (by omega))) ?_;refine oS sC ?_
    by_cases tv:i=s.xs.length
    ·have lW:=(hc.resolve_right (fun h=>absurd h.1 (by omega))).2
     have N1:=congrArg List.length lW
     refine oS ij (oZ dk ?_);refine cT (ae (oM (oM ?_)));refine ct (E:=cX) (xs:=[⟨a83,c83,l++[kP n i]⟩]) (vs:=[_]) rfl rfl rfl rfl rfl (by decide) (by decide) fun b96 Xj CR=>?_;refine bX yW (CR.aU aM) rfl rfl rfl rfl (by simp only[List.length_singleton];omega) (by simp only[List.length_singleton];omega) rfl bh fun Sj Su S97 CS=>?_;refine oA (ak (aq (xZ dL (ae (oM ?_)))));refine oS sD (oA (ak ?_));exact av (cd (i+1,l++[kP n i],a83,c83,⟨Sj,Su,q3.xs++[⟨a83,c83,l++[kP n i]⟩]⟩,S97,US,G83++Gk) ⟨by omega,by omega,by rw[hl];exact fm,hK.app sV Vc,CS,.inr ⟨by omega,⟨a83,c83,l++[kP n i]⟩,by rw[lW],by show l++_=_;rw[hl,fm,tv],sV.sl,(gq.start sV).more (fun _ h=>by cases h)⟩⟩ (by first|omega|(dsimp only;omega)) aH (by simp only[List.append_assoc];exact aP))
    ·obtain⟨rb,o,lW,ho,qL,yX⟩:=hc.resolve_left (fun h=>tv h.1)
     refine oS ik (oZ dk ?_);refine cF (ax (aq (xZ dL (ae (oM ?_)))));refine oS sD (oA (ak ?_));exact av (cd (i+1,l++[kP n i],a83,c83,q3,P3,US,G83++Gk) ⟨by omega,by omega,by rw[hl];exact fm,hK.app sV Vc,yW,.inr ⟨by omega,o,lW,ho,qL,yX.app sV Vc⟩⟩ (by first|omega|(dsimp only;omega)) aH (by simp only[List.append_assoc];exact aP))
   ·refine ay ?_;refine ad (ad (ag (xZ cZ (ae (oM (oM ?_))))));refine ct (E:=cX) (xs:=[⟨la,lc,l⟩]) (vs:=[_]) rfl rfl rfl rfl rfl (by decide) (by decide) fun Xt Xu AG=>?_;refine bX ka (AG.aU aM) rfl rfl rfl rfl (by simp only[List.length_singleton];omega) (by simp only[List.length_singleton];omega) rfl bh fun JC JD JE AH=>?_;refine oA (ak (aq (xZ cO (ae (oM ?_)))));refine oS sD (oA (ak ?_))
    obtain⟨rb,o,lW,ho,qL,yX⟩:=hc.resolve_left (fun h=>absurd h.1 (by omega))
    exact av (cd (n+1,q3,⟨JC,JD,q2.xs++[⟨la,lc,l⟩]⟩,P3,JE,Sk++(Gk++G),R2) ⟨by omega,by rw[lW];simp;omega,by simp;omega,yW,AH,EP,by rw[lW,← List.append_assoc];exact hD.step Jy MX hs ho (by show l=_;rw[hl];congr 1;omega) pS qL hK.own.sl hK.rds yX.rds (hK.own.rds.mono c4.ga)⟩ (by first|omega|(dsimp only;omega)) aH (by simp only[List.append_assoc];exact aP))
  ·obtain rfl:n=sls.length:=by omega
   have pT:=tr.sl
   have fP:=ka.sl
   refine ay ?_;refine ad (ad (ag (xZ bD (ah fun _ dE=>?_))));refine cR fun _ dS=>?_;refine oA (oZ dS (ai ?_))
   refine aL (fun (j:Nat)=>j≤sls.length) (fun (j:Nat)=>[(10,.int .i64 j)]) [(0,_),(5,_),(6,_)] (fun (j:Nat)=>(b,.cells cs.toArray 63 (0,0))::(So++(P1++(P2++(G++R))))) (fun (j:Nat)=>sls.length-j) 0 (by omega) aH aH aP ?_
   rintro j hj
   refine ah fun _ dW=>?_;refine cR fun _ ee=>?_;refine oM (oM ?_);refine oS sC ?_;refine oS (aF rfl rfl) ?_;refine oZ ee ?_;refine cx rfl (fun cH=>?_) (fun cH=>?_)
   ·obtain⟨s,o,m,hs,ho,hm,CT,kF,N2,io,im,rs,ro,rm⟩:=hD.out j (by omega)
    have ot:m.xs.length=s.xs.length+70:=by rw[kF,db]
    have Xo:o.xs.length=s.xs.length+1:=by rw[CT,db]
    have jr:=hlen j s hs
    refine ax (xZ dW (ah fun _ eh=>?_));refine ai (cR fun _ eD=>?_);refine oA (oZ eD (ai ?_));refine aL (fun (i:Nat)=>i≤s.xs.length+70) (fun (i:Nat)=>[(11,.int .i64 i)]) [(0,_),(5,_),(6,_),(10,_),(102,_),(103,_),(104,_),(105,_)] (fun (i:Nat)=>(b,.cells cs.toArray 63 (0,0))::(So++(P1++(P2++(G++R))))) (fun (i:Nat)=>s.xs.length+70-i) 0 (by omega) aH aH aP ?_
    rintro i hi
    refine ah fun _ dN=>?_;refine cR fun _ e6=>?_;refine oM (oM (oM ?_));refine oS (au rfl rfl fP (by omega)) ?_;refine oS (az rfl ((ka.aU aM).ld j 0 hm rfl (by decide) (by omega))) ?_;refine oS sC ?_;refine oS (aF rfl rfl) ?_;refine oZ e6 ?_;refine cx rfl (fun pQ=>?_) (fun pQ=>?_)
    ·refine ax (xZ dN (ah fun _ du=>?_));refine ai (cR fun _ fF=>?_);refine oM (oM ?_);refine oS (au rfl rfl fP (by omega)) ?_;refine oS (az rfl ((ka.aU aM).ld j 0 hm rfl (by decide) (by omega))) ?_;refine oM ?_;refine oS (au rfl rfl im (by omega)) ?_;refine oS (az rfl ((rm.aU aM).ld i 0 (by rw[kF];exact cA (by omega)) rfl (by decide) rfl)) ?_;refine oA (oZ fF (ah fun _ fx=>?_));refine cR fun _ fN=>?_;refine oM (oM ?_);refine oS sN ?_;refine oS sF ?_;refine oS (az rfl (.own aV hb)) ?_;refine oM ?_;refine oS (au rfl rfl gu (by omega)) ?_;refine oS (az rfl ((hO.aU aM).ld j 0 hs rfl (by decide) (by omega))) ?_;refine oS sC ?_
     by_cases ER:i<s.xs.length
     ·refine oS wg (oZ fN ?_);refine cT (ae (oM ?_));refine oS sN ?_;refine oS sF ?_;refine oS (az rfl (.own aV hb)) ?_;refine oM ?_;refine oS (au rfl rfl gu (by omega)) ?_;refine oS (az rfl ((hO.aU aM).ld j 0 hs rfl (by decide) (by omega))) ?_;refine oM ?_;refine oS (au rfl rfl N2 (by omega)) ?_;refine oS (az rfl ((rs.aU aM).ld i 0 (cA (by omega)) rfl (by decide) rfl)) ?_;refine oA (oZ fx (ah fun _ gh=>?_));refine cR fun _ fZ=>?_;refine oM (oM ?_);refine oS sN ?_;refine oS sF ?_;refine oS (az rfl (.own aV hb)) ?_;refine oM ?_;refine oS (au rfl rfl gu (by omega)) ?_;refine oS (az rfl ((hO.aU aM).ld j 0 hs rfl (by decide) (by omega))) ?_;refine oS sC ?_
      by_cases tv:i=s.xs.length
      ·refine oS ij (oZ fZ ?_);refine cT (ae (oM (oM ?_)));refine oS (au rfl rfl pT (by omega)) ?_;refine oS (az rfl ((tr.aU aM).ld j 0 ho rfl (by decide) (by omega))) ?_;refine oM ?_;refine oS (au rfl rfl io (by omega)) ?_;refine oS (az rfl ((ro.aU aM).ld i 0 (by rw[CT];exact cA (by omega)) rfl (by decide) rfl)) ?_;refine oA (oZ gh (cR fun _ iW=>?_));refine oM (oM (oM ?_));refine ar (bC j i (by omega) (by omega)) rfl rfl rfl (fun _ _=>trivial) (fun Vd vT=>?_)
       subst vT;refine oS (ab (v':=.bool true) (bO rfl rfl) (congrArg Value.bool (decide_eq_true rfl))) ?_;refine oA (oZ iW (cR fun _ gA=>?_));refine oM (oM ?_);refine oS (au rfl rfl fP (by omega)) ?_;refine oS (az rfl ((ka.aU aM).ld j 0 hm rfl (by decide) (by omega))) ?_;refine oM ?_;refine oS (au rfl rfl im (by omega)) ?_;refine oS (az rfl ((rm.aU aM).ld i 0 (by rw[kF];exact cA (by omega)) rfl (by decide) rfl)) ?_;refine oA (oZ gA (cR fun _ iX=>?_));refine oM ?_;refine oS (aT rfl) ?_;refine oM ?_;refine oY (oM ?_);refine oY (oM ?_);refine oY (oM ?_);refine oY ?_;refine ar (bC j i (by omega) (by omega)) rfl rfl rfl (fun _ _=>trivial) (fun OW vU=>?_);subst vU
       refine oY ?_;refine oS (ab (v':=.bool true) (bO rfl rfl) (congrArg Value.bool (decide_eq_true rfl))) ?_;refine oY ?_;refine oS (aT rfl) ?_;refine oS sP (oZ iX ?_);refine cF (ax (aq (xZ du (ae (oM ?_)))));refine oS sD (oA (ak ?_));exact xI (i+1) (by omega)
      ·refine oS ik (oZ fZ ?_);refine eL gh (cR fun _ jW=>?_);refine oM (oM (oM ?_));refine ar (bC j i (by omega) (by omega)) rfl rfl rfl (fun _ _=>trivial) (fun Vd vT=>?_);subst vT
       refine oS (ab (v':=.bool true) (bO rfl rfl) (congrArg Value.bool (decide_eq_true rfl))) ?_;refine oA (oZ jW (cR fun _ kT=>?_));refine oM (oM ?_);refine oS (au rfl rfl fP (by omega)) ?_;refine oS (az rfl ((ka.aU aM).ld j 0 hm rfl (by decide) (by omega))) ?_;refine oM ?_;refine oS (au rfl rfl im (by omega)) ?_;refine oS (az rfl ((rm.aU aM).ld i 0 (by rw[kF];exact cA (by omega)) rfl (by decide) rfl)) ?_;refine oA (oZ kT (cR fun _ nL=>?_));refine oM ?_;refine oS (aT rfl) ?_;refine oM ?_;refine oY (oM ?_);refine oY (oM ?_);refine oY (oM ?_);refine oY ?_;refine ar (bC j i (by omega) (by omega)) rfl rfl rfl (fun _ _=>trivial) (fun OW vU=>?_);subst vU
       refine oY ?_;refine oS (ab (v':=.bool true) (bO rfl rfl) (congrArg Value.bool (decide_eq_true rfl))) ?_;refine oY ?_;refine oS (aT rfl) ?_;refine oS sP (oZ nL ?_);refine cF (ax (aq (xZ du (ae (oM ?_)))));refine oS sD (oA (ak ?_));exact xI (i+1) (by omega)
     ·refine oS wh (oZ fN ?_);refine eL fx (ah fun _ kU=>?_);refine cR fun _ kV=>?_;refine oM (oM ?_);refine oS sN ?_;refine oS sF ?_;refine oS (az rfl (.own aV hb)) ?_;refine oM ?_;refine oS (au rfl rfl gu (by omega)) ?_;refine oS (az rfl ((hO.aU aM).ld j 0 hs rfl (by decide) (by omega))) ?_;refine oS sC ?_
      by_cases tv:i=s.xs.length
      ·refine oS ij (oZ kV ?_);refine cT (ae (oM (oM ?_)));refine oS (au rfl rfl pT (by omega)) ?_;refine oS (az rfl ((tr.aU aM).ld j 0 ho rfl (by decide) (by omega))) ?_;refine oM ?_;refine oS (au rfl rfl io (by omega)) ?_;refine oS (az rfl ((ro.aU aM).ld i 0 (by rw[CT];exact cA (by omega)) rfl (by decide) rfl)) ?_;refine oA (oZ kU (cR fun _ ou=>?_));refine oM (oM (oM ?_));refine ar (bC j i (by omega) (by omega)) rfl rfl rfl (fun _ _=>trivial) (fun Vd vT=>?_)
       subst vT;refine oS (ab (v':=.bool true) (bO rfl rfl) (congrArg Value.bool (decide_eq_true rfl))) ?_;refine oA (oZ ou (cR fun _ rh=>?_));refine oM (oM ?_);refine oS (au rfl rfl fP (by omega)) ?_;refine oS (az rfl ((ka.aU aM).ld j 0 hm rfl (by decide) (by omega))) ?_;refine oM ?_;refine oS (au rfl rfl im (by omega)) ?_;refine oS (az rfl ((rm.aU aM).ld i 0 (by rw[kF];exact cA (by omega)) rfl (by decide) rfl)) ?_;refine oA (oZ rh (cR fun _ uK=>?_));refine oM ?_;refine oS (aT rfl) ?_;refine oM ?_;refine oY (oM ?_);refine oY (oM ?_);refine oY (oM ?_);refine oY ?_;refine ar (bC j i (by omega) (by omega)) rfl rfl rfl (fun _ _=>trivial) (fun OW vU=>?_);subst vU
       refine oY ?_;refine oS (ab (v':=.bool true) (bO rfl rfl) (congrArg Value.bool (decide_eq_true rfl))) ?_;refine oY ?_;refine oS (aT rfl) ?_;refine oS sP (oZ uK ?_);refine cF (ax (aq (xZ du (ae (oM ?_)))));refine oS sD (oA (ak ?_));exact xI (i+1) (by omega)
      ·refine oS ik (oZ kV ?_);refine eL kU (cR fun _ yY=>?_);refine oM (oM (oM ?_));refine ar (bC j i (by omega) (by omega)) rfl rfl rfl (fun _ _=>trivial) (fun Vd vT=>?_);subst vT
       refine oS (ab (v':=.bool true) (bO rfl rfl) (congrArg Value.bool (decide_eq_true rfl))) ?_;refine oA (oZ yY (cR fun _ yZ=>?_));refine oM (oM ?_);refine oS (au rfl rfl fP (by omega)) ?_;refine oS (az rfl ((ka.aU aM).ld j 0 hm rfl (by decide) (by omega))) ?_;refine oM ?_;refine oS (au rfl rfl im (by omega)) ?_;refine oS (az rfl ((rm.aU aM).ld i 0 (by rw[kF];exact cA (by omega)) rfl (by decide) rfl)) ?_;refine oA (oZ yZ (cR fun _ y6=>?_));refine oM ?_;refine oS (aT rfl) ?_;refine oM ?_;refine oY (oM ?_);refine oY (oM ?_);refine oY (oM ?_);refine oY ?_;refine ar (bC j i (by omega) (by omega)) rfl rfl rfl (fun _ _=>trivial) (fun OW vU=>?_);subst vU
       refine oY ?_;refine oS (ab (v':=.bool true) (bO rfl rfl) (congrArg Value.bool (decide_eq_true rfl))) ?_;refine oY ?_;refine oS (aT rfl) ?_;refine oS sP (oZ y6 ?_);refine cF (ax (aq (xZ du (ae (oM ?_)))));refine oS sD (oA (ak ?_));exact xI (i+1) (by omega)
    ·refine ay ?_;refine ad (ad (ag (aq (xZ eh (ae (oM ?_))))));refine oS sD (oA (ak ?_));exact xI (j+1) (by omega)
   ·refine ay ?_;refine ad (ad (ag (xZ dE (cR fun _ y7=>?_))));refine oA (oZ y7 (aA ?_));refine ?_;refine cM (Sub.refl _) (H':=(b,.cells cs.toArray 63 (0,0))::So) aP ?_;exact xR rfl rfl (⟨rfl,rfl⟩)
set_option maxHeartbeats 1000000 in
theorem wu (b:Nat)(cs:List Value)(sls:List (Sl Bool))(oa:Option Addr)(oc:Nat)(So Si:Hp)(hb:cs[2]?=some (.slice oa sls.length oc))(hN:sls.length≤400)(hlen:∀ (j:Nat)(s:Sl Bool),sls[j]?=some s→s.xs.length≤4294967296)(hO:aG cX 1 28 (.slice oa sls.length oc) sls So)(yT:List (List Bool))(hI:cG fR 1 4 sls yT Si):HL.Fn Tryz.prog 52 [.pointer (some ⟨b,0,none⟩)] (fun _=>True) ((b,.cells cs.toArray 63 (0,0))::(So++Si)) (fun v S'=>v = .bool true∧S'=(b,.cells cs.toArray 63 (0,0))::So):=by
 refine aW Tryz.func52 rfl rfl rfl fun w0 hw=>?_
 have gu:=hO.sl
 refine cR fun _ bI=>?_;refine oA (oZ bI (ah fun _ bJ=>?_));refine cR fun _ bK=>?_;refine oA (oZ bK (ai ?_));refine dt (fun (n:Nat)(dO:List (List Bool))(Si:Hp)=>n≤sls.length∧cG fR 1 4 sls dO Si∧∀ j s,j<n→sls[j]?=some s→dO[j]?=some (j9 qZ j s.xs.length)) (fun (n:Nat)(dO:List (List Bool))(Si:Hp)=>[(3,.int .i64 n)]) [(0,_),(2,_)] (fun (n:Nat)(dO:List (List Bool))(Si:Hp)=>(b,.cells cs.toArray 63 (0,0))::(So++Si)) (fun (n:Nat)(dO:List (List Bool))(Si:Hp)=>sls.length-n) 0 _ _ ⟨by omega,hI,fun j s hj=>by omega⟩ aH aH aP ?_
 rintro n dO Si ⟨hn,hI,hA⟩
 refine ah fun _ bU=>?_;refine cR fun _ bT=>?_;refine oM (oM ?_);refine oS sN ?_;refine oS sF ?_;refine oS (az rfl (.own aV hb)) ?_;refine oS sC ?_;refine oS (aF rfl rfl) ?_;refine oZ bT ?_;refine cx rfl (fun cH=>?_) (fun cH=>?_)
 ·obtain⟨s,hs⟩:=kx (sls:=sls) (n:=n) (by omega)
  obtain⟨xs,S1,Xi,S2,hx,rfl,qG,q8⟩:=hI.at hs
  have mH:=qG.uF
  have jr:=hlen n s hs
  refine ax (xZ bU (ah fun _ bZ=>?_));refine ai (cR fun _ cj=>?_);refine oA (oZ cj (ai ?_));refine dt (fun (i:Nat)(l:List Bool)(Sn:Hp)=>i≤s.xs.length∧Af.pJ (qZ n) s.xs.length i l∧aG fR 1 4 s.v l Sn) (fun (i:Nat)(l:List Bool)(Sn:Hp)=>[(4,.int .i64 i)]) [(0,_),(2,_),(3,_),(14,_),(15,_),(16,_),(17,_),(18,_),(19,_),(20,_)] (fun (i:Nat)(l:List Bool)(Sn:Hp)=>(b,.cells cs.toArray 63 (0,0))::(So++(S1++(Sn++S2)))) (fun (i:Nat)(l:List Bool)(Sn:Hp)=>s.xs.length-i) 0 _ _ ⟨by omega,.zero mH,qG⟩ aH aH aP ?_
  rintro i l Sn ⟨hi,hl,nT⟩
  have o9:=nT.uF
  have mE:=nT.sl
  rw[o9] at mE
  refine ah fun _ ck=>?_;refine cR fun _ cQ=>?_;refine oM (oM ?_);refine oS sN ?_;refine oS sF ?_;refine oS (az rfl (.own aV hb)) ?_;refine oM ?_;refine oS (au rfl rfl gu (by omega)) ?_;refine oS (az rfl ((hO.aU aM).ld n 0 hs rfl (by decide) (by omega))) ?_;refine oS sC ?_;refine oS (aF rfl rfl) ?_;refine oZ cQ ?_;refine cx rfl (fun pQ=>?_) (fun pQ=>?_)
  ·refine ax (xZ ck (ah fun _ bw=>?_));refine ai ?_;refine aK ((b,.cells cs.toArray 63 (0,0))::So) (fun i=>false) ?_;refine eK 0 rfl sM ?_;refine eK 1 rfl sN ?_;refine eK 2 rfl sF ?_;refine eK 3 rfl (az rfl (.own aV hb)) ?_;refine eK 4 rfl sM ?_;refine eK 5 rfl (au rfl rfl gu (by omega)) ?_;refine eK 6 rfl (az rfl ((hO.aU aM).ld n 0 hs rfl (by decide) (by omega))) ?_;refine eK 7 rfl sM ?_;refine eK 8 rfl sM ?_;refine eK 9 rfl sM ?_;refine eK 11 rfl sM ?_;refine eK 12 rfl (ab (v':=.int .i64 ((i % 8:Nat):Int)) (jZ rfl rfl (by decide)) (congrArg _ (nX _))) ?_;refine eK 13 rfl (ab (v':=.int .i64 ((20+i % 8:Nat):Int)) (kW rfl rfl (by omega)) (congrArg _ (by omega))) ?_;refine eK 14 rfl (ab (v':=.int .u64 ((20+i % 8:Nat):Int)) (cV rfl) (congrArg _ (cK (by omega)))) ?_;refine eO 10 rfl ?_;refine ar (bC n i (by omega) (by omega)) rfl rfl rfl (fun _ _=>trivial) (fun v45 yU=>?_);subst yU
   refine oX ?_;refine eK 15 rfl (ab (v':=.int .i64 (((1048576*n+i+1) / 2 ^ (20+i % 8):Nat):Int)) (j6 rfl rfl (by omega)) (congrArg _ (nY _ (by omega)))) ?_;refine eK 16 rfl (ab (v':=.int .i64 ((((1048576*n+i+1) / 2 ^ (20+i % 8)) % 2:Nat):Int)) (gW rfl rfl) (congrArg _ (kv (ku (by omega) (by omega))))) ?_;refine eK 17 rfl (ab (v':=.bool (qZ n i)) (bO rfl rfl) (congrArg Value.bool (decide_eq_decide.2 (by omega)))) ?_;refine eK 18 rfl (au rfl rfl mE (by omega)) ?_;refine eO 19 rfl ?_;refine dp i (qZ n i) nT bh rfl rfl rfl (by omega) (by first|rfl|(rw[Int.toNat_natCast,Nat.mul_one];first|done|rfl)) fun S' wH=>?_;refine oX ?_;refine cw (by kernel_rfl) ?_;refine aq (xZ bw ?_)
   refine ae (oM ?_);refine oS sD (oA (ak ?_));exact xI (i+1,_,S') ⟨by omega,hl.step (by omega) rfl,wH⟩
  ·refine ay ?_;refine ad (ad (ag (aq (xZ bZ (ae (oM ?_))))));refine oS sD (oA (ak ?_));exact xI (n+1,dO.set n l,S1++(Sn++S2)) ⟨by omega,q8 _ _ nT,tp hA hs (pR hl (by omega)) hx⟩
 ·have hF:ov fR 1 4 qZ 0 (sls.drop 0) Si:=hI.all (n:=0) (fun j s hs=>by rw[Nat.zero_add];exact hA j s (by have:=(List.getElem?_eq_some_iff.1 hs).1;omega) hs)
  refine ay ?_;refine ad (ad (ag (xZ bJ (cR fun _ bF=>?_))));refine oA (oA (oZ bF (ah fun _ bD=>?_)));refine cR fun _ cb=>?_;refine oA (oZ cb (ai ?_));refine lL (fun (n:Nat)(q1:Sl (Sl Bool))(q2:Sl (Sl Bool))(P1:Hp)(P2:Hp)(G:Hp)(R:Hp)=>n≤sls.length∧q1.xs.length=n∧q2.xs.length=n∧aG cX 1 28 (.slice q1.a q1.xs.length q1.c) q1.xs P1∧aG cX 1 28 (.slice q2.a q2.xs.length q2.c) q2.xs P2∧ov fR 1 4 qZ n (sls.drop n) R∧yV fR qZ sls q1.xs q2.xs G n) (fun (n:Nat)(q1:Sl (Sl Bool))(q2:Sl (Sl Bool))(P1:Hp)(P2:Hp)(G:Hp)(R:Hp)=>[(7,.int .i64 n),(5,.slice q1.a q1.xs.length q1.c),(6,.slice q2.a q2.xs.length q2.c)]) [(0,_),(2,_)] (fun (n:Nat)(q1:Sl (Sl Bool))(q2:Sl (Sl Bool))(P1:Hp)(P2:Hp)(G:Hp)(R:Hp)=>(b,.cells cs.toArray 63 (0,0))::(So++(P1++(P2++(G++R))))) (fun (n:Nat)(q1:Sl (Sl Bool))(q2:Sl (Sl Bool))(P1:Hp)(P2:Hp)(G:Hp)(R:Hp)=>sls.length-n) 0 ⟨none,0,[]⟩ ⟨none,0,[]⟩ [] [] [] _ ⟨by omega,rfl,rfl,.nil,.nil,hF,.zero⟩ aH aH aP ?_
  rintro n q1 q2 P1 P2 G R ⟨hn,Jy,MX,tr,ka,hR,hD⟩
  refine ah fun _ bL=>?_;refine cR fun _ bQ=>?_;refine oM (oM ?_);refine oS sN ?_;refine oS sF ?_;refine oS (az rfl (.own aV hb)) ?_;refine oS sC ?_;refine oS (aF rfl rfl) ?_;refine oZ bQ ?_;refine cx rfl (fun cH=>?_) (fun cH=>?_)
  ·obtain⟨s,hs⟩:=kx (sls:=sls) (n:=n) (by omega)
   have jr:=hlen n s hs
   obtain⟨Sa,R2,rfl,GM,EP⟩:=hR.head hs
   have CQ:(Value.slice s.a (j9 qZ n s.xs.length).length s.c)=s.v:=by rw[db];rfl
   have pS:=GM.sl
   rw[db] at pS
   refine ax (xZ bL (ah fun _ cO=>?_));refine ai (cR fun _ df=>?_);refine oM ?_;refine oS sN ?_;refine oS sF ?_;refine oS (az rfl (.own aV hb)) ?_;refine oM ?_;refine oS (au rfl rfl gu (by omega)) ?_;refine oS (az rfl ((hO.aU aM).ld n 0 hs rfl (by decide) (by omega))) ?_;refine oA (oZ df (ah fun _ cZ=>?_));refine cR fun _ dq=>?_;refine oM ?_;refine oS sC (oA (oZ dq (ai ?_)));refine lV (fun (i:Nat)(l:List Bool)(la:Option Addr)(lc:Nat)(q3:Sl (Sl Bool))(P3:Hp)(Sk:Hp)(Gk:Hp)=>s.xs.length≤i∧i≤s.xs.length+70∧l=j9 qZ n i∧gq fR 1 4 s.v (j9 qZ n s.xs.length) (.slice la l.length lc) l Sk Gk∧aG cX 1 28 (.slice q3.a q3.xs.length q3.c) q3.xs P3∧((i=s.xs.length∧q3.xs=q1.xs)∨(s.xs.length<i∧∃ o,q3.xs=q1.xs++[o]∧o.xs=j9 qZ n (s.xs.length+1)∧eA o.v o.xs.length∧gq fR 1 4 o.v o.xs (.slice la l.length lc) l Sk Gk))) (fun (i:Nat)(l:List Bool)(la:Option Addr)(lc:Nat)(q3:Sl (Sl Bool))(P3:Hp)(Sk:Hp)(Gk:Hp)=>[(9,.int .i64 i),(8,.slice la l.length lc),(5,.slice q3.a q3.xs.length q3.c)]) [(0,_),(2,_),(6,_),(7,_),(54,_),(55,_),(56,_),(57,_),(58,_),(59,_),(60,_),(63,_),(64,_),(65,_),(66,_),(67,_),(68,_),(69,_),(70,_),(71,_)] (fun (i:Nat)(l:List Bool)(la:Option Addr)(lc:Nat)(q3:Sl (Sl Bool))(P3:Hp)(Sk:Hp)(Gk:Hp)=>(b,.cells cs.toArray 63 (0,0))::(So++(P3++(P2++(Sk++(Gk++(G++R2))))))) (fun (i:Nat)(l:List Bool)(la:Option Addr)(lc:Nat)(q3:Sl (Sl Bool))(P3:Hp)(Sk:Hp)(Gk:Hp)=>s.xs.length+70-i) s.xs.length (j9 qZ n s.xs.length) s.a s.c q1 P1 Sa [] ⟨by omega,by omega,rfl,by rw[CQ];exact gq.start GM,tr,.inl ⟨rfl,rfl⟩⟩ (by exact Sub.cons rfl (Sub.fY rfl (by rw[db];rfl) (Sub.cons rfl .nil))) aH aP ?_
   rintro i l la lc q3 P3 Sk Gk ⟨N0,Ie,hl,hK,yW,hc⟩
   have o9:l.length=i:=by rw[hl,db]
   refine ah fun _ dG=>?_;refine cR fun _ eb=>?_;refine oM (oM ?_);refine oS sN ?_;refine oS sF ?_;refine oS (az rfl (.own aV hb)) ?_;refine oM ?_;refine oS (au rfl rfl gu (by omega)) ?_;refine oS (az rfl ((hO.aU aM).ld n 0 hs rfl (by decide) (by omega))) ?_;refine oS sC ?_;refine oS sD ?_;refine oS (aF rfl rfl) ?_;refine oZ eb ?_;refine cx rfl (fun pQ=>?_) (fun pQ=>?_)
   ·refine ax (xZ dG (ah fun _ dL=>?_));refine ai (cR fun _ dR=>?_);refine oM (oM (oM ?_));refine ar (bC n i (by omega) (by omega)) rfl rfl rfl (fun _ _=>trivial) (fun v88 adD=>?_);subst adD
    refine oM ?_;refine oS (ab (v':=.int .i64 ((i % 8:Nat):Int)) (jZ rfl rfl (by decide)) (congrArg _ (nX _))) ?_;refine oS (ab (v':=.int .i64 ((20+i % 8:Nat):Int)) (kW rfl rfl (by omega)) (congrArg _ (by omega))) ?_;refine oS (ab (v':=.int .u64 ((20+i % 8:Nat):Int)) (cV rfl) (congrArg _ (cK (by omega)))) ?_;refine oS (ab (v':=.int .i64 (((1048576*n+i+1) / 2 ^ (20+i % 8):Nat):Int)) (j6 rfl rfl (by omega)) (congrArg _ (nY _ (by omega)))) ?_;refine oS (ab (v':=.int .i64 ((((1048576*n+i+1) / 2 ^ (20+i % 8)) % 2:Nat):Int)) (gW rfl rfl) (congrArg _ (kv (ku (by omega) (by omega))))) ?_;refine oS (ab (v':=.bool (qZ n i)) (bO rfl rfl) (congrArg Value.bool (decide_eq_decide.2 (by omega)))) ?_;refine ct (E:=fR) (xs:=[qZ n i]) (vs:=[_]) rfl rfl rfl rfl rfl (by decide) (by decide) fun b96 Xj CR=>?_;refine uH hK.own (CR.aU aM) rfl rfl rfl rfl (by simp only[List.length_singleton];omega) (by simp only[List.length_singleton];omega) rfl bh fun Sj Su S97 G97 CS Sz=>?_;refine oA (oZ dR (cR fun _ dk=>?_));refine oM (oM ?_);refine oS sN ?_;refine oS sF ?_;refine oS (az rfl (.own aV hb)) ?_;refine oM ?_;refine oS (au rfl rfl gu (by omega)) ?_;refine oS (az rfl ((hO.aU aM).ld n 0 hs rfl (by decide) (by omega))) ?_;refine oS sC ?_
    by_cases tv:i=s.xs.length
    ·have lW:=(hc.resolve_right (fun h=>absurd h.1 (by omega))).2
     have N1:=congrArg List.length lW
     refine oS ij (oZ dk ?_);refine cT (ae (oM (oM ?_)));refine ct (E:=cX) (xs:=[⟨Sj,Su,l++[qZ n i]⟩]) (vs:=[_]) rfl rfl rfl rfl rfl (by decide) (by decide) fun ama amb Xk=>?_;refine bX yW (Xk.aU aM) rfl rfl rfl rfl (by simp only[List.length_singleton];omega) (by simp only[List.length_singleton];omega) rfl bh fun SA SD GN xq=>?_;refine oA (ak (aq (xZ dL (ae (oM ?_)))));refine oS sD (oA (ak ?_));exact av (cd (i+1,l++[qZ n i],Sj,Su,⟨SA,SD,q3.xs++[⟨Sj,Su,l++[qZ n i]⟩]⟩,GN,S97,G97++Gk) ⟨by omega,by omega,by rw[hl];exact fm,hK.app CS Sz,xq,.inr ⟨by omega,⟨Sj,Su,l++[qZ n i]⟩,by rw[lW],by show l++_=_;rw[hl,fm,tv],CS.sl,(gq.start CS).more (fun _ h=>by cases h)⟩⟩ (by first|omega|(dsimp only;omega)) aH (by simp only[List.append_assoc];exact aP))
    ·obtain⟨rb,o,lW,ho,qL,yX⟩:=hc.resolve_left (fun h=>tv h.1)
     refine oS ik (oZ dk ?_);refine cF (ax (aq (xZ dL (ae (oM ?_)))));refine oS sD (oA (ak ?_));exact av (cd (i+1,l++[qZ n i],Sj,Su,q3,P3,S97,G97++Gk) ⟨by omega,by omega,by rw[hl];exact fm,hK.app CS Sz,yW,.inr ⟨by omega,o,lW,ho,qL,yX.app CS Sz⟩⟩ (by first|omega|(dsimp only;omega)) aH (by simp only[List.append_assoc];exact aP))
   ·refine ay ?_;refine ad (ad (ag (xZ cZ (ae (oM (oM ?_))))));refine ct (E:=cX) (xs:=[⟨la,lc,l⟩]) (vs:=[_]) rfl rfl rfl rfl rfl (by decide) (by decide) fun amc amd Xl=>?_;refine bX ka (Xl.aU aM) rfl rfl rfl rfl (by simp only[List.length_singleton];omega) (by simp only[List.length_singleton];omega) rfl bh fun adE adF Xm Xn=>?_;refine oA (ak (aq (xZ cO (ae (oM ?_)))));refine oS sD (oA (ak ?_))
    obtain⟨rb,o,lW,ho,qL,yX⟩:=hc.resolve_left (fun h=>absurd h.1 (by omega))
    exact av (cd (n+1,q3,⟨adE,adF,q2.xs++[⟨la,lc,l⟩]⟩,P3,Xm,Sk++(Gk++G),R2) ⟨by omega,by rw[lW];simp;omega,by simp;omega,yW,Xn,EP,by rw[lW,← List.append_assoc];exact hD.step Jy MX hs ho (by show l=_;rw[hl];congr 1;omega) pS qL hK.own.sl hK.rds yX.rds (hK.own.rds.mono c4.ga)⟩ (by first|omega|(dsimp only;omega)) aH (by simp only[List.append_assoc];exact aP))
  ·obtain rfl:n=sls.length:=by omega
   have pT:=tr.sl
   have fP:=ka.sl
   refine ay ?_;refine ad (ad (ag (xZ bD (ah fun _ dE=>?_))));refine cR fun _ dS=>?_;refine oA (oZ dS (ai ?_))
   refine aL (fun (j:Nat)=>j≤sls.length) (fun (j:Nat)=>[(10,.int .i64 j)]) [(0,_),(5,_),(6,_)] (fun (j:Nat)=>(b,.cells cs.toArray 63 (0,0))::(So++(P1++(P2++(G++R))))) (fun (j:Nat)=>sls.length-j) 0 (by omega) aH aH aP ?_
   rintro j hj
   refine ah fun _ dW=>?_;refine cR fun _ ee=>?_;refine oM (oM ?_);refine oS sC ?_;refine oS (aF rfl rfl) ?_;refine oZ ee ?_;refine cx rfl (fun cH=>?_) (fun cH=>?_)
   ·obtain⟨s,o,m,hs,ho,hm,CT,kF,N2,io,im,rs,ro,rm⟩:=hD.out j (by omega)
    have ot:m.xs.length=s.xs.length+70:=by rw[kF,db]
    have Xo:o.xs.length=s.xs.length+1:=by rw[CT,db]
    have jr:=hlen j s hs
    refine ax (xZ dW (ah fun _ eh=>?_));refine ai (cR fun _ eD=>?_);refine oA (oZ eD (ai ?_));refine aL (fun (i:Nat)=>i≤s.xs.length+70) (fun (i:Nat)=>[(11,.int .i64 i)]) [(0,_),(5,_),(6,_),(10,_),(116,_),(117,_),(118,_),(119,_)] (fun (i:Nat)=>(b,.cells cs.toArray 63 (0,0))::(So++(P1++(P2++(G++R))))) (fun (i:Nat)=>s.xs.length+70-i) 0 (by omega) aH aH aP ?_
    rintro i hi
    refine ah fun _ dN=>?_;refine cR fun _ e6=>?_;refine oM (oM (oM ?_));refine oS (au rfl rfl fP (by omega)) ?_;refine oS (az rfl ((ka.aU aM).ld j 0 hm rfl (by decide) (by omega))) ?_;refine oS sC ?_;refine oS (aF rfl rfl) ?_;refine oZ e6 ?_;refine cx rfl (fun pQ=>?_) (fun pQ=>?_)
    ·refine ax (xZ dN (ah fun _ du=>?_));refine ai (cR fun _ fF=>?_);refine oM (oM ?_);refine oS (au rfl rfl fP (by omega)) ?_;refine oS (az rfl ((ka.aU aM).ld j 0 hm rfl (by decide) (by omega))) ?_;refine oM ?_;refine oS (au rfl rfl im (by omega)) ?_;refine oS (az rfl ((rm.aU aM).ld i 0 (by rw[kF];exact cA (by omega)) rfl (by decide) rfl)) ?_;refine oA (oZ fF (ah fun _ fx=>?_));refine cR fun _ fN=>?_;refine oM (oM ?_);refine oS sN ?_;refine oS sF ?_;refine oS (az rfl (.own aV hb)) ?_;refine oM ?_;refine oS (au rfl rfl gu (by omega)) ?_;refine oS (az rfl ((hO.aU aM).ld j 0 hs rfl (by decide) (by omega))) ?_;refine oS sC ?_
     by_cases ER:i<s.xs.length
     ·refine oS wg (oZ fN ?_);refine cT (ae (oM ?_));refine oS sN ?_;refine oS sF ?_;refine oS (az rfl (.own aV hb)) ?_;refine oM ?_;refine oS (au rfl rfl gu (by omega)) ?_;refine oS (az rfl ((hO.aU aM).ld j 0 hs rfl (by decide) (by omega))) ?_;refine oM ?_;refine oS (au rfl rfl N2 (by omega)) ?_;refine oS (az rfl ((rs.aU aM).ld i 0 (cA (by omega)) rfl (by decide) rfl)) ?_;refine oA (oZ fx (ah fun _ gh=>?_));refine cR fun _ fZ=>?_;refine oM (oM ?_);refine oS sN ?_;refine oS sF ?_;refine oS (az rfl (.own aV hb)) ?_;refine oM ?_;refine oS (au rfl rfl gu (by omega)) ?_;refine oS (az rfl ((hO.aU aM).ld j 0 hs rfl (by decide) (by omega))) ?_;refine oS sC ?_
      by_cases tv:i=s.xs.length
      ·refine oS ij (oZ fZ ?_);refine cT (ae (oM (oM ?_)));refine oS (au rfl rfl pT (by omega)) ?_;refine oS (az rfl ((tr.aU aM).ld j 0 ho rfl (by decide) (by omega))) ?_;refine oM ?_;refine oS (au rfl rfl io (by omega)) ?_;refine oS (az rfl ((ro.aU aM).ld i 0 (by rw[CT];exact cA (by omega)) rfl (by decide) rfl)) ?_;refine oA (oZ gh (cR fun _ iW=>?_));refine oM (oM (oM ?_));refine ar (bC j i (by omega) (by omega)) rfl rfl rfl (fun _ _=>trivial) (fun SF uI=>?_)
       subst uI;refine oM ?_;refine oS (ab (v':=.int .i64 ((i % 8:Nat):Int)) (jZ rfl rfl (by decide)) (congrArg _ (nX _))) ?_;refine oS (ab (v':=.int .i64 ((20+i % 8:Nat):Int)) (kW rfl rfl (by omega)) (congrArg _ (by omega))) ?_;refine oS (ab (v':=.int .u64 ((20+i % 8:Nat):Int)) (cV rfl) (congrArg _ (cK (by omega)))) ?_;refine oS (ab (v':=.int .i64 (((1048576*j+i+1) / 2 ^ (20+i % 8):Nat):Int)) (j6 rfl rfl (by omega)) (congrArg _ (nY _ (by omega)))) ?_;refine oS (ab (v':=.int .i64 ((((1048576*j+i+1) / 2 ^ (20+i % 8)) % 2:Nat):Int)) (gW rfl rfl) (congrArg _ (kv (ku (by omega) (by omega))))) ?_;refine oS (ab (v':=.bool (qZ j i)) (bO rfl rfl) (congrArg Value.bool (decide_eq_decide.2 (by omega)))) ?_;refine oS (ab (v':=.bool true) (eI rfl rfl) (congrArg Value.bool (decide_eq_true rfl))) ?_;refine oA (oZ iW (cR fun _ gA=>?_));refine oM (oM ?_);refine oS (au rfl rfl fP (by omega)) ?_;refine oS (az rfl ((ka.aU aM).ld j 0 hm rfl (by decide) (by omega))) ?_;refine oM ?_;refine oS (au rfl rfl im (by omega)) ?_;refine oS (az rfl ((rm.aU aM).ld i 0 (by rw[kF];exact cA (by omega)) rfl (by decide) rfl)) ?_;refine oA (oZ gA (cR fun _ iX=>?_));refine oM ?_;refine oS (aT rfl) ?_;refine oM ?_
       refine oY (oM ?_);refine oY (oM ?_);refine oY (oM ?_);refine oY ?_;refine ar (bC j i (by omega) (by omega)) rfl rfl rfl (fun _ _=>trivial) (fun SG uJ=>?_);subst uJ
       refine oY (oM ?_);refine oY ?_;refine oS (ab (v':=.int .i64 ((i % 8:Nat):Int)) (jZ rfl rfl (by decide)) (congrArg _ (nX _))) ?_;refine oY ?_;refine oS (ab (v':=.int .i64 ((20+i % 8:Nat):Int)) (kW rfl rfl (by omega)) (congrArg _ (by omega))) ?_;refine oY ?_;refine oS (ab (v':=.int .u64 ((20+i % 8:Nat):Int)) (cV rfl) (congrArg _ (cK (by omega)))) ?_;refine oY ?_;refine oS (ab (v':=.int .i64 (((1048576*j+i+1) / 2 ^ (20+i % 8):Nat):Int)) (j6 rfl rfl (by omega)) (congrArg _ (nY _ (by omega)))) ?_;refine oY ?_;refine oS (ab (v':=.int .i64 ((((1048576*j+i+1) / 2 ^ (20+i % 8)) % 2:Nat):Int)) (gW rfl rfl) (congrArg _ (kv (ku (by omega) (by omega))))) ?_;refine oY ?_;refine oS (ab (v':=.bool (qZ j i)) (bO rfl rfl) (congrArg Value.bool (decide_eq_decide.2 (by omega)))) ?_;refine oY ?_;refine oS (ab (v':=.bool true) (eI rfl rfl) (congrArg Value.bool (decide_eq_true rfl))) ?_;refine oY ?_;refine oS (aT rfl) ?_;refine oS sP (oZ iX ?_);refine cF (ax (aq (xZ du (ae (oM ?_)))));refine oS sD (oA (ak ?_));exact xI (i+1) (by omega)
      ·refine oS ik (oZ fZ ?_);refine eL gh (cR fun _ jW=>?_);refine oM (oM (oM ?_));refine ar (bC j i (by omega) (by omega)) rfl rfl rfl (fun _ _=>trivial) (fun SF uI=>?_);subst uI
       refine oM ?_;refine oS (ab (v':=.int .i64 ((i % 8:Nat):Int)) (jZ rfl rfl (by decide)) (congrArg _ (nX _))) ?_;refine oS (ab (v':=.int .i64 ((20+i % 8:Nat):Int)) (kW rfl rfl (by omega)) (congrArg _ (by omega))) ?_;refine oS (ab (v':=.int .u64 ((20+i % 8:Nat):Int)) (cV rfl) (congrArg _ (cK (by omega)))) ?_;refine oS (ab (v':=.int .i64 (((1048576*j+i+1) / 2 ^ (20+i % 8):Nat):Int)) (j6 rfl rfl (by omega)) (congrArg _ (nY _ (by omega)))) ?_;refine oS (ab (v':=.int .i64 ((((1048576*j+i+1) / 2 ^ (20+i % 8)) % 2:Nat):Int)) (gW rfl rfl) (congrArg _ (kv (ku (by omega) (by omega))))) ?_;refine oS (ab (v':=.bool (qZ j i)) (bO rfl rfl) (congrArg Value.bool (decide_eq_decide.2 (by omega)))) ?_;refine oS (ab (v':=.bool true) (eI rfl rfl) (congrArg Value.bool (decide_eq_true rfl))) ?_;refine oA (oZ jW (cR fun _ kT=>?_));refine oM (oM ?_);refine oS (au rfl rfl fP (by omega)) ?_;refine oS (az rfl ((ka.aU aM).ld j 0 hm rfl (by decide) (by omega))) ?_;refine oM ?_;refine oS (au rfl rfl im (by omega)) ?_;refine oS (az rfl ((rm.aU aM).ld i 0 (by rw[kF];exact cA (by omega)) rfl (by decide) rfl)) ?_;refine oA (oZ kT (cR fun _ nL=>?_));refine oM ?_;refine oS (aT rfl) ?_;refine oM ?_
       refine oY (oM ?_);refine oY (oM ?_);refine oY (oM ?_);refine oY ?_;refine ar (bC j i (by omega) (by omega)) rfl rfl rfl (fun _ _=>trivial) (fun SG uJ=>?_);subst uJ
       refine oY (oM ?_);refine oY ?_;refine oS (ab (v':=.int .i64 ((i % 8:Nat):Int)) (jZ rfl rfl (by decide)) (congrArg _ (nX _))) ?_;refine oY ?_;refine oS (ab (v':=.int .i64 ((20+i % 8:Nat):Int)) (kW rfl rfl (by omega)) (congrArg _ (by omega))) ?_;refine oY ?_;refine oS (ab (v':=.int .u64 ((20+i % 8:Nat):Int)) (cV rfl) (congrArg _ (cK (by omega)))) ?_;refine oY ?_;refine oS (ab (v':=.int .i64 (((1048576*j+i+1) / 2 ^ (20+i % 8):Nat):Int)) (j6 rfl rfl (by omega)) (congrArg _ (nY _ (by omega)))) ?_;refine oY ?_;refine oS (ab (v':=.int .i64 ((((1048576*j+i+1) / 2 ^ (20+i % 8)) % 2:Nat):Int)) (gW rfl rfl) (congrArg _ (kv (ku (by omega) (by omega))))) ?_;refine oY ?_;refine oS (ab (v':=.bool (qZ j i)) (bO rfl rfl) (congrArg Value.bool (decide_eq_decide.2 (by omega)))) ?_;refine oY ?_;refine oS (ab (v':=.bool true) (eI rfl rfl) (congrArg Value.bool (decide_eq_true rfl))) ?_;refine oY ?_;refine oS (aT rfl) ?_;refine oS sP (oZ nL ?_);refine cF (ax (aq (xZ du (ae (oM ?_)))));refine oS sD (oA (ak ?_));exact xI (i+1) (by omega)
     ·refine oS wh (oZ fN ?_);refine eL fx (ah fun _ kU=>?_);refine cR fun _ kV=>?_;refine oM (oM ?_);refine oS sN ?_;refine oS sF ?_;refine oS (az rfl (.own aV hb)) ?_;refine oM ?_;refine oS (au rfl rfl gu (by omega)) ?_;refine oS (az rfl ((hO.aU aM).ld j 0 hs rfl (by decide) (by omega))) ?_;refine oS sC ?_
      by_cases tv:i=s.xs.length
      ·refine oS ij (oZ kV ?_);refine cT (ae (oM (oM ?_)));refine oS (au rfl rfl pT (by omega)) ?_;refine oS (az rfl ((tr.aU aM).ld j 0 ho rfl (by decide) (by omega))) ?_;refine oM ?_;refine oS (au rfl rfl io (by omega)) ?_;refine oS (az rfl ((ro.aU aM).ld i 0 (by rw[CT];exact cA (by omega)) rfl (by decide) rfl)) ?_;refine oA (oZ kU (cR fun _ ou=>?_));refine oM (oM (oM ?_));refine ar (bC j i (by omega) (by omega)) rfl rfl rfl (fun _ _=>trivial) (fun SF uI=>?_)
       subst uI;refine oM ?_;refine oS (ab (v':=.int .i64 ((i % 8:Nat):Int)) (jZ rfl rfl (by decide)) (congrArg _ (nX _))) ?_;refine oS (ab (v':=.int .i64 ((20+i % 8:Nat):Int)) (kW rfl rfl (by omega)) (congrArg _ (by omega))) ?_;refine oS (ab (v':=.int .u64 ((20+i % 8:Nat):Int)) (cV rfl) (congrArg _ (cK (by omega)))) ?_;refine oS (ab (v':=.int .i64 (((1048576*j+i+1) / 2 ^ (20+i % 8):Nat):Int)) (j6 rfl rfl (by omega)) (congrArg _ (nY _ (by omega)))) ?_;refine oS (ab (v':=.int .i64 ((((1048576*j+i+1) / 2 ^ (20+i % 8)) % 2:Nat):Int)) (gW rfl rfl) (congrArg _ (kv (ku (by omega) (by omega))))) ?_;refine oS (ab (v':=.bool (qZ j i)) (bO rfl rfl) (congrArg Value.bool (decide_eq_decide.2 (by omega)))) ?_;refine oS (ab (v':=.bool true) (eI rfl rfl) (congrArg Value.bool (decide_eq_true rfl))) ?_;refine oA (oZ ou (cR fun _ rh=>?_));refine oM (oM ?_);refine oS (au rfl rfl fP (by omega)) ?_;refine oS (az rfl ((ka.aU aM).ld j 0 hm rfl (by decide) (by omega))) ?_;refine oM ?_;refine oS (au rfl rfl im (by omega)) ?_;refine oS (az rfl ((rm.aU aM).ld i 0 (by rw[kF];exact cA (by omega)) rfl (by decide) rfl)) ?_;refine oA (oZ rh (cR fun _ uK=>?_));refine oM ?_;refine oS (aT rfl) ?_;refine oM ?_
       refine oY (oM ?_);refine oY (oM ?_);refine oY (oM ?_);refine oY ?_;refine ar (bC j i (by omega) (by omega)) rfl rfl rfl (fun _ _=>trivial) (fun SG uJ=>?_);subst uJ
       refine oY (oM ?_);refine oY ?_;refine oS (ab (v':=.int .i64 ((i % 8:Nat):Int)) (jZ rfl rfl (by decide)) (congrArg _ (nX _))) ?_;refine oY ?_;refine oS (ab (v':=.int .i64 ((20+i % 8:Nat):Int)) (kW rfl rfl (by omega)) (congrArg _ (by omega))) ?_;refine oY ?_;refine oS (ab (v':=.int .u64 ((20+i % 8:Nat):Int)) (cV rfl) (congrArg _ (cK (by omega)))) ?_;refine oY ?_;refine oS (ab (v':=.int .i64 (((1048576*j+i+1) / 2 ^ (20+i % 8):Nat):Int)) (j6 rfl rfl (by omega)) (congrArg _ (nY _ (by omega)))) ?_;refine oY ?_;refine oS (ab (v':=.int .i64 ((((1048576*j+i+1) / 2 ^ (20+i % 8)) % 2:Nat):Int)) (gW rfl rfl) (congrArg _ (kv (ku (by omega) (by omega))))) ?_;refine oY ?_;refine oS (ab (v':=.bool (qZ j i)) (bO rfl rfl) (congrArg Value.bool (decide_eq_decide.2 (by omega)))) ?_;refine oY ?_;refine oS (ab (v':=.bool true) (eI rfl rfl) (congrArg Value.bool (decide_eq_true rfl))) ?_;refine oY ?_;refine oS (aT rfl) ?_;refine oS sP (oZ uK ?_);refine cF (ax (aq (xZ du (ae (oM ?_)))));refine oS sD (oA (ak ?_));exact xI (i+1) (by omega)
      ·refine oS ik (oZ kV ?_);refine eL kU (cR fun _ yY=>?_);refine oM (oM (oM ?_));refine ar (bC j i (by omega) (by omega)) rfl rfl rfl (fun _ _=>trivial) (fun SF uI=>?_);subst uI
       refine oM ?_;refine oS (ab (v':=.int .i64 ((i % 8:Nat):Int)) (jZ rfl rfl (by decide)) (congrArg _ (nX _))) ?_;refine oS (ab (v':=.int .i64 ((20+i % 8:Nat):Int)) (kW rfl rfl (by omega)) (congrArg _ (by omega))) ?_;refine oS (ab (v':=.int .u64 ((20+i % 8:Nat):Int)) (cV rfl) (congrArg _ (cK (by omega)))) ?_;refine oS (ab (v':=.int .i64 (((1048576*j+i+1) / 2 ^ (20+i % 8):Nat):Int)) (j6 rfl rfl (by omega)) (congrArg _ (nY _ (by omega)))) ?_;refine oS (ab (v':=.int .i64 ((((1048576*j+i+1) / 2 ^ (20+i % 8)) % 2:Nat):Int)) (gW rfl rfl) (congrArg _ (kv (ku (by omega) (by omega))))) ?_;refine oS (ab (v':=.bool (qZ j i)) (bO rfl rfl) (congrArg Value.bool (decide_eq_decide.2 (by omega)))) ?_;refine oS (ab (v':=.bool true) (eI rfl rfl) (congrArg Value.bool (decide_eq_true rfl))) ?_;refine oA (oZ yY (cR fun _ yZ=>?_));refine oM (oM ?_);refine oS (au rfl rfl fP (by omega)) ?_;refine oS (az rfl ((ka.aU aM).ld j 0 hm rfl (by decide) (by omega))) ?_;refine oM ?_;refine oS (au rfl rfl im (by omega)) ?_;refine oS (az rfl ((rm.aU aM).ld i 0 (by rw[kF];exact cA (by omega)) rfl (by decide) rfl)) ?_;refine oA (oZ yZ (cR fun _ y6=>?_));refine oM ?_;refine oS (aT rfl) ?_;refine oM ?_
       refine oY (oM ?_);refine oY (oM ?_);refine oY (oM ?_);refine oY ?_;refine ar (bC j i (by omega) (by omega)) rfl rfl rfl (fun _ _=>trivial) (fun SG uJ=>?_);subst uJ
       refine oY (oM ?_);refine oY ?_;refine oS (ab (v':=.int .i64 ((i % 8:Nat):Int)) (jZ rfl rfl (by decide)) (congrArg _ (nX _))) ?_;refine oY ?_;refine oS (ab (v':=.int .i64 ((20+i % 8:Nat):Int)) (kW rfl rfl (by omega)) (congrArg _ (by omega))) ?_;refine oY ?_;refine oS (ab (v':=.int .u64 ((20+i % 8:Nat):Int)) (cV rfl) (congrArg _ (cK (by omega)))) ?_;refine oY ?_;refine oS (ab (v':=.int .i64 (((1048576*j+i+1) / 2 ^ (20+i % 8):Nat):Int)) (j6 rfl rfl (by omega)) (congrArg _ (nY _ (by omega)))) ?_;refine oY ?_;refine oS (ab (v':=.int .i64 ((((1048576*j+i+1) / 2 ^ (20+i % 8)) % 2:Nat):Int)) (gW rfl rfl) (congrArg _ (kv (ku (by omega) (by omega))))) ?_;refine oY ?_;refine oS (ab (v':=.bool (qZ j i)) (bO rfl rfl) (congrArg Value.bool (decide_eq_decide.2 (by omega)))) ?_;refine oY ?_;refine oS (ab (v':=.bool true) (eI rfl rfl) (congrArg Value.bool (decide_eq_true rfl))) ?_;refine oY ?_;refine oS (aT rfl) ?_;refine oS sP (oZ y6 ?_);refine cF (ax (aq (xZ du (ae (oM ?_)))));refine oS sD (oA (ak ?_));exact xI (i+1) (by omega)
    ·refine ay ?_;refine ad (ad (ag (aq (xZ eh (ae (oM ?_))))));refine oS sD (oA (ak ?_));exact xI (j+1) (by omega)
   ·refine ay ?_;refine ad (ad (ag (xZ dE (cR fun _ y7=>?_))));refine oA (oZ y7 (aA ?_));refine ?_;refine cM (Sub.refl _) (H':=(b,.cells cs.toArray 63 (0,0))::So) aP ?_;exact xR rfl rfl (⟨rfl,rfl⟩)
end Go.Proofs.YtmompllplidphaaGreatDoor
