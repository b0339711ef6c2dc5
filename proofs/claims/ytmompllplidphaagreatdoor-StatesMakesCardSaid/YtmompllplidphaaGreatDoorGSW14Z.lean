/- Part of the proofs over this seat: see the text that holds the theorem. Conditions: each theorem bears its own. -/
import Derived.Test.YtmompllplidphaaGreatDoorHTZ
import Derived.Test.YtmompllplidphaaGreatDoorGSW10Z
import Derived.Test.YtmompllplidphaaGreatDoorSM10Z
import Derived.Test.YtmompllplidphaaGreatDoorGSN4Z
import Derived.Test.YtmompllplidphaaGreatDoorHlB
import Derived.Test.YtmompllplidphaaGreatDoorGSW2Z
import Derived.Test.YtmompllplidphaaGreatDoorGB1Z
import Derived.Test.YtmompllplidphaaGreatDoorGB6Z
import Derived.Test.YtmompllplidphaaGreatDoorGSW4Z
import Derived.Test.YtmompllplidphaaGreatDoorMC9Z
namespace Go.Proofs.YtmompllplidphaaGreatDoor
open Go Go.HL Go.Proofs Go.HL.Kl Go.HL.Kl.Mc Go.HL.cm
def P9 {α:Type} [DecidableEq α](l:List α)(s:α):Int:=if s∈l then 1 else 0
theorem NF {α:Type} [DecidableEq α](l:List α)(s:α):(wE l s).getD (.int .i64 0) = .int .i64 (P9 l s):=by
 unfold wE P9
 split <;> rfl
theorem IX {α:Type} [DecidableEq α]{l:List α}{s:α}(h:P9 l s=0):s∉l:=by
 intro hm
 simp[P9,hm] at h
theorem NG {α:Type} [DecidableEq α]{l:List α}{s:α}(h:¬ P9 l s=0):s∈l:=by
 unfold P9 at h
 split at h
 · assumption
 · exact absurd rfl h
theorem xe (l:List Bo):∀ (f:Nat)(x:Bo),(pG l f x).length≤f
 | 0,_=>Nat.le_refl _
 | f+1,x=>by
   unfold pG
   split
   · simp
   · have:=xe l f (l[x.oV.toNat]?.getD ⟨0,0,-1,0⟩)
     simp;exact this
set_option maxHeartbeats 4000000 in
theorem Gg (d1:Df)(lH:Option Addr)(lI:Nat)(lJ:Option Addr)(lK:Nat)(cW:List (Sl Int))(ko:Option Addr)(kp:Nat)(oW:d1.next=cW.map Sl.xs)(d2:Df)(j3:Option Addr)(j4:Nat)(iJ:Option Addr)(iK:Nat)(cu:List (Sl Int))(fi:Option Addr)(fj:Nat)(nU:d2.next=cu.map Sl.xs):HL.Fn Tryz.prog 20 [.agg [.slice lH d1.atoms.length lI,.slice lJ cW.length lK,.slice ko d1.ends.length kp].toArray,.agg [.slice j3 d2.atoms.length j4,.slice iJ cu.length iK,.slice fi d2.ends.length fj].toArray] (fun w=>Cu d1 lH lI lJ lK cW ko kp w∧Cu d2 j3 j4 iJ iK cu fi fj w∧Tb [] w) [] (fun v S'=>∃ S2,HSub S' S2∧UnP (RB d1 d2) v S2):=by
 refine aW Tryz.func20 rfl rfl rfl fun w0 hw=>?_;refine cR fun _ bI=>?_;refine cB rfl rfl rfl fun b2=>?_;refine cB rfl rfl rfl fun b3=>?_;refine oA (oA (oZ bI (ah fun _ bJ=>?_)));refine cR fun _ bK=>?_;refine oS (aD rfl (aI.aO (.own aV)) aS) ?_;refine ar (om d1 lH lI lJ lK cW ko kp oW) rfl rfl rfl (fun w st=>⟨hw.1.old st,dI hw.2.2 st HSub.nil⟩) (fun v18 ac6=>?_);subst ac6
 cases NH:wb d1
 ·refine oS (aT rfl) ?_;refine oM ?_;refine oN ?_;refine oN ?_;refine oN ?_;refine oS sT (oZ bK ?_);refine cT (cR fun _ bU=>?_);refine oA (oA (oZ bU (aA ?_)));refine aj (?_);exact cr rfl (.tmp rfl (.tmp rfl (.nil))) (⟨[],HSub.nil,.inl ⟨by unfold RB;rw[NH];rfl,rfl⟩⟩)
 ·have hS1:=yD.1 NH
  obtain⟨z11,z21,z31,z41,z51⟩:=hS1.sz
  have alq:d1.next.length=cW.length:=by rw[oW,List.length_map]
  refine oS (aT rfl) ?_;refine oM ?_;refine oY ?_;refine oS (aD rfl (aI.aO (.own aV)) aS) ?_;refine oY ?_;refine ar (om d2 j3 j4 iJ iK cu fi fj nU) rfl rfl rfl (fun w st=>⟨hw.2.1.old st,dI hw.2.2 st HSub.nil⟩) (fun v22 qO=>?_);subst qO
  cases RC:wb d2
  ·refine oY ?_;refine oS (aT rfl) ?_;refine oS sP (oZ bK ?_);refine cT (cR fun _ bT=>?_);refine oA (oA (oZ bT (aA ?_)));refine aj (?_);exact cr rfl (.tmp rfl (.tmp rfl (.nil))) (⟨[],HSub.nil,.inl ⟨by unfold RB;rw[NH,RC];rfl,rfl⟩⟩)
  ·have IY:=yD.1 RC
   obtain⟨z12,z22,z32,z42,z52⟩:=IY.sz
   have alr:d2.next.length=cu.length:=by rw[nU,List.length_map]
   refine oY ?_;refine oS (aT rfl) ?_;refine oS sP (oZ bK ?_);refine eL bJ (ah fun _ bZ=>?_);refine aK ([(b3,.cells [.slice j3 d2.atoms.length j4,.slice iJ cu.length iK,.slice fi d2.ends.length fj].toArray 30 (0,0)),(b2,.cells [.slice lH d1.atoms.length lI,.slice lJ cW.length lK,.slice ko d1.ends.length kp].toArray 30 (0,0))]) (fun i=>false) ?_;refine eK 0 rfl (aD rfl (aI.aO (.own aV)) aS) ?_;refine eK 2 rfl (aD rfl (aI.aO (.own aV)) aS) ?_;refine Cv (ι:=Nat×Nat) (fun g=>[(26,.agg (dg (fun i=>(cm.lC d1.atoms i d1.atoms.length:Nat))).toArray),(28,.agg (dg (fun i=>(cm.lC d2.atoms i d2.atoms.length:Nat))).toArray),(6,.pointer (some ⟨g.1,0,none⟩)),(7,.pointer (some ⟨g.2,0,none⟩))]) [(2,_),(3,_),(4,_),(5,_)] (fun g=>[(g.1,.cells (dg (fun _=>0)).toArray 116 (0,0)),(g.2,.cells (dg (fun _=>0)).toArray 116 (0,0)),(b3,.cells [.slice j3 d2.atoms.length j4,.slice iJ cu.length iK,.slice fi d2.ends.length fj].toArray 30 (0,0)),(b2,.cells [.slice lH d1.atoms.length lI,.slice lJ cW.length lK,.slice ko d1.ends.length kp].toArray 30 (0,0))]) 2 #[true,true,true,true,true,true,false,false] aH (fun hJ=>?_) ?_
   ·refine uo 1 4 5 rfl rfl rfl (by kernel_rfl) ?_ ?_ ?_
    ·refine ar (c5 d1 lH lI lJ lK cW ko kp oW) rfl rfl rfl (fun w st=>⟨hw.1.old st,dI hw.2.2 st HSub.nil⟩) (fun P0 qP=>?_);subst qP
     refine oX ?_;refine uo 3 4 5 rfl rfl rfl (by kernel_rfl) ?_ ?_ ?_
     ·refine ar (c5 d2 j3 j4 iJ iK cu fi fj nU) rfl rfl rfl (fun w st=>⟨hw.2.1.old st,dI hw.2.2 st HSub.nil⟩) (fun EE gC=>?_);subst gC
      refine oX ?_;refine ej 4 5 rfl rfl (by kernel_rfl) ?_ ?_
      ·refine aB (l:=dg (fun _=>0)) (by rw[cJ];rfl) rfl fun b6=>?_;refine oX (eO 5 rfl ?_);refine aB (l:=dg (fun _=>0)) (by rw[cJ];rfl) rfl fun b7=>?_;refine oX ?_
       exact dC (by kernel_rfl) (hJ (b6,b7) _ _ aH aH aP)
      ·refine aB (l:=dg (fun _=>0)) (by rw[cJ];rfl) rfl fun b7=>?_;refine oX (eO 4 rfl ?_);refine aB (l:=dg (fun _=>0)) (by rw[cJ];rfl) rfl fun b6=>?_;refine oX ?_
       exact dC (by kernel_rfl) (hJ (b6,b7) _ _ aH aH aP)
     ·refine aB (l:=dg (fun _=>0)) (by rw[cJ];rfl) rfl fun b6=>?_;refine oX ?_;refine ej 3 5 rfl rfl (by kernel_rfl) ?_ ?_
      ·refine ar (c5 d2 j3 j4 iJ iK cu fi fj nU) rfl rfl rfl (fun w st=>⟨hw.2.1.old st,dI hw.2.2 st HSub.nil⟩) (fun EE gC=>?_);subst gC
       refine oX (eO 5 rfl ?_);refine aB (l:=dg (fun _=>0)) (by rw[cJ];rfl) rfl fun b7=>?_;refine oX ?_
       exact dC (by kernel_rfl) (hJ (b6,b7) _ _ aH aH aP)
      ·refine aB (l:=dg (fun _=>0)) (by rw[cJ];rfl) rfl fun b7=>?_;refine oX (eO 3 rfl ?_);refine ar (c5 d2 j3 j4 iJ iK cu fi fj nU) rfl rfl rfl (fun w st=>⟨hw.2.1.old st,dI hw.2.2 st HSub.nil⟩) (fun EE gC=>?_);subst gC
       refine oX ?_
       exact dC (by kernel_rfl) (hJ (b6,b7) _ _ aH aH aP)
     ·refine aB (l:=dg (fun _=>0)) (by rw[cJ];rfl) rfl fun b7=>?_;refine oX ?_;refine ej 3 4 rfl rfl (by kernel_rfl) ?_ ?_
      ·refine ar (c5 d2 j3 j4 iJ iK cu fi fj nU) rfl rfl rfl (fun w st=>⟨hw.2.1.old st,dI hw.2.2 st HSub.nil⟩) (fun EE gC=>?_);subst gC
       refine oX (eO 4 rfl ?_);refine aB (l:=dg (fun _=>0)) (by rw[cJ];rfl) rfl fun b6=>?_;refine oX ?_
       exact dC (by kernel_rfl) (hJ (b6,b7) _ _ aH aH aP)
      ·refine aB (l:=dg (fun _=>0)) (by rw[cJ];rfl) rfl fun b6=>?_;refine oX (eO 3 rfl ?_);refine ar (c5 d2 j3 j4 iJ iK cu fi fj nU) rfl rfl rfl (fun w st=>⟨hw.2.1.old st,dI hw.2.2 st HSub.nil⟩) (fun EE gC=>?_);subst gC
       refine oX ?_
       exact dC (by kernel_rfl) (hJ (b6,b7) _ _ aH aH aP)
    ·refine aB (l:=dg (fun _=>0)) (by rw[cJ];rfl) rfl fun b6=>?_;refine oX ?_;refine ej 1 5 rfl rfl (by kernel_rfl) ?_ ?_
     ·refine ar (c5 d1 lH lI lJ lK cW ko kp oW) rfl rfl rfl (fun w st=>⟨hw.1.old st,dI hw.2.2 st HSub.nil⟩) (fun P0 qP=>?_);subst qP
      refine oX ?_;refine ej 3 5 rfl rfl (by kernel_rfl) ?_ ?_
      ·refine ar (c5 d2 j3 j4 iJ iK cu fi fj nU) rfl rfl rfl (fun w st=>⟨hw.2.1.old st,dI hw.2.2 st HSub.nil⟩) (fun EE gC=>?_);subst gC
       refine oX (eO 5 rfl ?_);refine aB (l:=dg (fun _=>0)) (by rw[cJ];rfl) rfl fun b7=>?_;refine oX ?_
       exact dC (by kernel_rfl) (hJ (b6,b7) _ _ aH aH aP)
      ·refine aB (l:=dg (fun _=>0)) (by rw[cJ];rfl) rfl fun b7=>?_;refine oX (eO 3 rfl ?_);refine ar (c5 d2 j3 j4 iJ iK cu fi fj nU) rfl rfl rfl (fun w st=>⟨hw.2.1.old st,dI hw.2.2 st HSub.nil⟩) (fun EE gC=>?_);subst gC
       refine oX ?_
       exact dC (by kernel_rfl) (hJ (b6,b7) _ _ aH aH aP)
     ·refine aB (l:=dg (fun _=>0)) (by rw[cJ];rfl) rfl fun b7=>?_;refine oX (eO 1 rfl ?_);refine ar (c5 d1 lH lI lJ lK cW ko kp oW) rfl rfl rfl (fun w st=>⟨hw.1.old st,dI hw.2.2 st HSub.nil⟩) (fun P0 qP=>?_);subst qP
      refine oX (eO 3 rfl ?_);refine ar (c5 d2 j3 j4 iJ iK cu fi fj nU) rfl rfl rfl (fun w st=>⟨hw.2.1.old st,dI hw.2.2 st HSub.nil⟩) (fun EE gC=>?_);subst gC
      refine oX ?_
      exact dC (by kernel_rfl) (hJ (b6,b7) _ _ aH aH aP)
    ·refine aB (l:=dg (fun _=>0)) (by rw[cJ];rfl) rfl fun b7=>?_;refine oX ?_;refine ej 1 4 rfl rfl (by kernel_rfl) ?_ ?_
     ·refine ar (c5 d1 lH lI lJ lK cW ko kp oW) rfl rfl rfl (fun w st=>⟨hw.1.old st,dI hw.2.2 st HSub.nil⟩) (fun P0 qP=>?_);subst qP
      refine oX ?_;refine ej 3 4 rfl rfl (by kernel_rfl) ?_ ?_
      ·refine ar (c5 d2 j3 j4 iJ iK cu fi fj nU) rfl rfl rfl (fun w st=>⟨hw.2.1.old st,dI hw.2.2 st HSub.nil⟩) (fun EE gC=>?_);subst gC
       refine oX (eO 4 rfl ?_);refine aB (l:=dg (fun _=>0)) (by rw[cJ];rfl) rfl fun b6=>?_;refine oX ?_
       exact dC (by kernel_rfl) (hJ (b6,b7) _ _ aH aH aP)
      ·refine aB (l:=dg (fun _=>0)) (by rw[cJ];rfl) rfl fun b6=>?_;refine oX (eO 3 rfl ?_);refine ar (c5 d2 j3 j4 iJ iK cu fi fj nU) rfl rfl rfl (fun w st=>⟨hw.2.1.old st,dI hw.2.2 st HSub.nil⟩) (fun EE gC=>?_);subst gC
       refine oX ?_
       exact dC (by kernel_rfl) (hJ (b6,b7) _ _ aH aH aP)
     ·refine aB (l:=dg (fun _=>0)) (by rw[cJ];rfl) rfl fun b6=>?_;refine oX (eO 1 rfl ?_);refine ar (c5 d1 lH lI lJ lK cW ko kp oW) rfl rfl rfl (fun w st=>⟨hw.1.old st,dI hw.2.2 st HSub.nil⟩) (fun P0 qP=>?_);subst qP
      refine oX (eO 3 rfl ?_);refine ar (c5 d2 j3 j4 iJ iK cu fi fj nU) rfl rfl rfl (fun w st=>⟨hw.2.1.old st,dI hw.2.2 st HSub.nil⟩) (fun EE gC=>?_);subst gC
      refine oX ?_
      exact dC (by kernel_rfl) (hJ (b6,b7) _ _ aH aH aP)
   ·rintro⟨b6,b7⟩
    refine eO 6 rfl ?_;refine bf rfl rfl bY (eE _) (eE _) (pH _) ?_;refine oX (eO 7 rfl ?_);refine bf rfl rfl bY (eE _) (eE _) (pH _) ?_;refine oX (eZ bZ (cR fun _ cj=>?_));refine oS (bG (cs:=[_,_,_,_]) (vs:=[_]) rfl rfl (.cons rfl rfl rfl rfl rfl (.nil))) ?_;refine ct (E:=IZ) (xs:=[⟨0,0,-1,0⟩]) (vs:=[_]) rfl rfl rfl rfl rfl (by decide) (by decide) fun b30 S30 ac9=>?_;refine oA (oZ cj (cR fun _ ck=>?_));refine sZ (Ek:=I0) rfl fun WL=>?_;refine oS (ab (v':=I0 ((0:Int),(0:Int))) (gY [.int .i64 0,.int .i64 0] rfl rfl rfl rfl (by simp[Value.oneCell'])) rfl) ?_;refine I1 (Ek:=I0) (k:=((0:Int),(0:Int))) rfl rfl rfl bh fun es0 c0 I2 adb=>?_;refine oM (oA (oZ ck (cR fun _ cQ=>?_)));refine oA (oZ cQ (cR fun _ bw=>?_));refine oA (oZ bw (ah fun _ bF=>?_));refine cR fun _ bD=>?_;refine oA (oZ bD (ai ?_))
    refine lL (fun (i:Nat)(l:List Bo)(la:Option Addr)(lc:Nat)(es:List (Mx (Int×Int)))(mc:Nat)(jP:Hp)=>nV d1 d2 (66051-i) i l=RB d1 d2∧i≤l.length∧Gh d1 d2 l∧(∀ t,getM es t=wE (l.map Bo.pq) t)∧aG IZ 4 120 (.slice la l.length lc) l jP) (fun (i:Nat)(l:List Bo)(la:Option Addr)(lc:Nat)(es:List (Mx (Int×Int)))(mc:Nat)(jP:Hp)=>[(8,.slice la l.length lc),(12,.int .i64 i)]) [(2,_),(3,_),(6,_),(7,_),(9,_),(10,_),(11,_)] (fun (i:Nat)(l:List Bo)(la:Option Addr)(lc:Nat)(es:List (Mx (Int×Int)))(mc:Nat)(jP:Hp)=>(b2,.cells [.slice lH d1.atoms.length lI,.slice lJ cW.length lK,.slice ko d1.ends.length kp].toArray 30 (0,0))::(b3,.cells [.slice j3 d2.atoms.length j4,.slice iJ cu.length iK,.slice fi d2.ends.length fj].toArray 30 (0,0))::(b6,.cells (dg (fun i=>(cm.lC d1.atoms i d1.atoms.length:Nat))).toArray 116 (0,0))::(b7,.cells (dg (fun i=>(cm.lC d2.atoms i d2.atoms.length:Nat))).toArray 116 (0,0))::(WL,jd I0 es mc)::jP) (fun (i:Nat)(l:List Bo)(la:Option Addr)(lc:Nat)(es:List (Mx (Int×Int)))(mc:Nat)(jP:Hp)=>66051-i) 0 [⟨0,0,-1,0⟩] (some ⟨b30,0,none⟩) 1 es0 c0 S30 ⟨by unfold RB;rw[NH,RC];rfl,Nat.zero_le _,Gh.one (by omega) (by omega),Ao (l:=[]) (s:=((0:Int),(0:Int))) (g:=getM ([]:List (Mx (Int×Int)))) (fun _=>rfl) I2,ac9⟩ aH aH aP ?_
    rintro i l la lc es mc jP ⟨ic,B4,hU,hN,hO⟩
    have hUl:=hU.len z21 z22
    have dr:=hO.sl
    have RD:=hU
    refine ah fun _ cb=>?_;refine cR fun _ bL=>?_;refine oM (oM ?_);refine oS sC ?_
    by_cases cH:i<l.length
    ·obtain⟨x,ie⟩:∃ x,l[i]?=some x:=gE
     refine oS (ab (v':=.bool true) (aF rfl rfl) (congrArg Value.bool (decide_eq_true (by omega)))) ?_;refine oZ bL ?_;refine gp cb (ah fun _ bQ=>?_);refine ai (cR fun _ cO=>?_);refine oM (oM ?_);refine oS (au rfl rfl dr (by omega)) ?_;refine oS (aD rfl ((hO.aU aM).gx i ie (by omega)) aS) ?_;refine aB rfl rfl fun rT=>?_;refine bf rfl rfl bY aS aS fE ?_;refine oZ cO (ah fun _ df=>?_);refine ah fun _ cZ=>?_;refine aK ([(rT,.cells (IZ x).toArray 120 (0,0)),(b2,.cells [.slice lH d1.atoms.length lI,.slice lJ cW.length lK,.slice ko d1.ends.length kp].toArray 30 (0,0)),(b3,.cells [.slice j3 d2.atoms.length j4,.slice iJ cu.length iK,.slice fi d2.ends.length fj].toArray 30 (0,0))]) (fun i=>false) ?_;refine eP 0 rfl sM ?_;refine eK 1 rfl (aD rfl (aI.aO (.own aV)) aS) ?_;refine eP 2 rfl sF ?_;refine eP 3 rfl (aQ rfl rfl (by omega)) ?_;refine eK 4 rfl sL ?_;refine eP 6 rfl sM ?_;refine eK 7 rfl (aD rfl (aI.aO (.own aV)) aS) ?_;refine eP 8 rfl sF ?_;refine eP 9 rfl (aQ rfl rfl (by omega)) ?_;refine eK 10 rfl sL (eO 5 rfl ?_);refine ff (us:=[]) (vs:=[_,_]) (cs:=[]) (Ap d1 lH lI lJ lK cW ko kp oW x.p (hU.bp x (List.mem_of_getElem? ie)).2) rfl rfl rfl (by exact .nil) (fun w st=>hw.1.old st) (fun v49 VU RE=>?_);subst RE
     refine oX (eO 11 rfl ?_);refine ff (us:=[]) (vs:=[_,_]) (cs:=[]) (Ap d2 j3 j4 iJ iK cu fi fj nU x.q (hU.bq x (List.mem_of_getElem? ie)).2) rfl rfl rfl (by exact .nil) (fun w st=>hw.2.1.old st) (fun v55 S55 RF=>?_);subst RF
     refine oX ?_
     by_cases dM:iL d1 x.p≠iL d2 x.q
     ·refine eP 12 rfl (ab (v':=.bool true) (jt rfl rfl) (congrArg Value.bool (decide_eq_true dM))) ?_;refine eZ cZ ?_;refine cT (cR fun _ dq=>?_);refine oA (oZ dq (ah fun _ dG=>?_));refine ai ?_;refine jY (fun (t:List UInt8)(y:Bo)(k:Nat)(ta:Option Addr)(tc:Nat)(St:Hp)=>t++back l y=back l x∧l[k]?=some y∧aG Eb 1 5 (.slice ta t.length tc) t St) (fun (t:List UInt8)(y:Bo)(k:Nat)(ta:Option Addr)(tc:Nat)(St:Hp)=>[(14,.slice ta t.length tc)]) [(2,_),(3,_),(6,_),(7,_),(8,_),(9,_),(10,_),(11,_),(12,_),(13,_),(34,_),(35,_),(36,_),(37,_),(40,_),(41,_),(42,_),(43,_),(44,_),(45,_),(46,_),(47,_),(48,_),(49,_),(50,_),(51,_),(52,_),(53,_),(54,_),(55,_),(56,_)] (fun (t:List UInt8)(y:Bo)(k:Nat)(ta:Option Addr)(tc:Nat)(St:Hp)=>(rT,.cells (IZ y).toArray 120 (0,0))::(b2,.cells [.slice lH d1.atoms.length lI,.slice lJ cW.length lK,.slice ko d1.ends.length kp].toArray 30 (0,0))::(b3,.cells [.slice j3 d2.atoms.length j4,.slice iJ cu.length iK,.slice fi d2.ends.length fj].toArray 30 (0,0))::(b6,.cells (dg (fun i=>(cm.lC d1.atoms i d1.atoms.length:Nat))).toArray 116 (0,0))::(b7,.cells (dg (fun i=>(cm.lC d2.atoms i d2.atoms.length:Nat))).toArray 116 (0,0))::(WL,jd I0 es mc)::(jP++St)) (fun (t:List UInt8)(y:Bo)(k:Nat)(ta:Option Addr)(tc:Nat)(St:Hp)=>(y.oV+1).toNat) [] x i none 0 [] ⟨rfl,ie,aG.nil⟩ aH aH aP ?_
      rintro t y k ta tc St ⟨hb,hyk,hT⟩
      have hfy:=hU.fr k y hyk
      have EF:=(List.getElem?_eq_some_iff.1 hyk).1
      have Ac:=congrArg List.length hb
      rw[List.length_append] at Ac
      have s3:=xe l (x.oV+1).toNat x
      have hfx:=hU.fr i x ie
      change (back l x).length≤_ at s3
      refine ah fun _ eb=>?_;refine cR fun _ dL=>?_;refine oS sF ?_;refine oS sL ?_
      by_cases pI:y.oV≥0
      ·obtain⟨z,hz⟩:∃ z,l[y.oV.toNat]?=some z:=gE
       refine oS (ab (v':=.bool true) (iH rfl rfl) (congrArg Value.bool (decide_eq_true pI))) ?_;refine oZ dL ?_;refine gp eb (ah fun _ dR=>?_);refine ai (ae (oM ?_));refine oS sF ?_;refine oS (ab (v':=.int .u8 ((UInt8.ofNat y.I3).toNat:Nat)) (az rfl (.own aV rfl)) (by rw[UInt8.toNat_ofNat_of_lt' (by have:=hU.I3 y (List.mem_of_getElem? hyk);simp[UInt8.size];omega)])) ?_;refine ct (E:=Eb) (xs:=[UInt8.ofNat y.I3]) (vs:=[_]) rfl rfl rfl rfl rfl (by decide) (by decide) fun b68 S68 ade=>?_;refine bX hT (ade.aU aM) rfl rfl rfl rfl (by simp only[List.length_append,List.length_singleton];omega) (by simp only[List.length_append,List.length_singleton];omega) rfl bh fun a69 c69 S69 adf=>?_;refine oA (ak (aq (xZ dR (ae (oM ?_)))));refine oS sF ?_;refine oS sL ?_;refine oS (au rfl rfl dr (by omega)) ?_;refine oS (aD rfl ((hO.aU aM).gx y.oV.toNat hz (by omega)) aS) ?_;refine bf rfl rfl bY aS aS fE ?_;refine ak ?_;exact av (cd (t++[UInt8.ofNat y.I3],z,y.oV.toNat,a69,c69,S69) ⟨by rw[← hb,Gi hU hyk (by omega) hz];simp,hz,adf⟩ (by have:=hU.fr _ z hz;first|omega|(dsimp only;omega)) aH aP)
      ·rw[I4 (l:=l) (x:=y) (by omega),List.append_nil] at hb
       refine oS (ab (v':=.bool false) (iH rfl rfl) (congrArg Value.bool (decide_eq_false pI))) ?_;refine oZ dL ?_;refine cF ?_;refine ay ?_;refine ad (ad (ag (xZ dG (cR fun _ dk=>?_))));refine oM ?_;refine aX (Cw ta tc t St hT) rfl rfl rfl (bh) (fun _ _=>trivial) (fun v71 S71 adg=>?_);refine oZ dk (cR fun _ dE=>?_);refine oM (oA (oA (oZ dE (aA ?_))));refine aj (aw (aj (aj (aw (aj (?_))))))
       exact cr rfl (.tmp rfl (.tmp rfl (.nil))) (⟨S71,by exact aP,.inr ⟨_,ta,tc,by rw[← ic,Gj (by omega) ie dM,← hb],by rw[List.length_reverse];rfl,by rw[List.length_reverse];exact adg⟩⟩)
     ·have heq:=Classical.not_not.1 dM
      refine eP 12 rfl (ab (v':=.bool false) (jt rfl rfl) (congrArg Value.bool (decide_eq_false dM))) ?_;refine eZ cZ ?_;refine eL df (cR fun _ dS=>?_);refine oM (oZ dS (ai ?_));refine lL (fun (c:Nat)(m:List Bo)(la:Option Addr)(lc:Nat)(es:List (Mx (Int×Int)))(mc:Nat)(jP:Hp)=>c≤256∧m=j5 d1 d2 i x c l∧Gh d1 d2 m∧l.length≤m.length∧(∀ t,getM es t=wE (m.map Bo.pq) t)∧aG IZ 4 120 (.slice la m.length lc) m jP) (fun (c:Nat)(m:List Bo)(la:Option Addr)(lc:Nat)(es:List (Mx (Int×Int)))(mc:Nat)(jP:Hp)=>[(73,.int .i64 c),(8,.slice la m.length lc)]) [(2,_),(3,_),(6,_),(7,_),(9,_),(10,_),(11,_),(12,_),(13,_),(34,_),(35,_),(36,_),(37,_),(40,_),(41,_),(42,_),(43,_),(44,_),(45,_),(46,_),(47,_),(48,_),(49,_),(50,_),(51,_),(52,_),(53,_),(54,_),(55,_),(56,_)] (fun (c:Nat)(m:List Bo)(la:Option Addr)(lc:Nat)(es:List (Mx (Int×Int)))(mc:Nat)(jP:Hp)=>(rT,.cells (IZ x).toArray 120 (0,0))::(b2,.cells [.slice lH d1.atoms.length lI,.slice lJ cW.length lK,.slice ko d1.ends.length kp].toArray 30 (0,0))::(b3,.cells [.slice j3 d2.atoms.length j4,.slice iJ cu.length iK,.slice fi d2.ends.length fj].toArray 30 (0,0))::(b6,.cells (dg (fun i=>(cm.lC d1.atoms i d1.atoms.length:Nat))).toArray 116 (0,0))::(b7,.cells (dg (fun i=>(cm.lC d2.atoms i d2.atoms.length:Nat))).toArray 116 (0,0))::(WL,jd I0 es mc)::jP) (fun (c:Nat)(m:List Bo)(la:Option Addr)(lc:Nat)(es:List (Mx (Int×Int)))(mc:Nat)(jP:Hp)=>256-c) 0 l la lc es mc jP ⟨Nat.zero_le _,rfl,hU,Nat.le_refl _,hN,hO⟩ aH aH aP ?_
      rintro c m la lc es mc jP ⟨hc,NI,hU,hlm,hN,hO⟩
      have hUm:=hU.len z21 z22
      refine cR fun _ dW=>?_;refine oS (aF rfl rfl) ?_;refine oZ dW (ah fun _ ee=>?_);refine cx rfl (fun hlc=>?_) (fun hlc=>?_)
      ·refine ax (xZ ee (ah fun _ eh=>?_));refine ai (cR fun _ eD=>?_);refine oM (oA (oZ eD (ah fun _ dN=>?_)));refine aK ((rT,.cells (IZ x).toArray 120 (0,0))::(b2,.cells [.slice lH d1.atoms.length lI,.slice lJ cW.length lK,.slice ko d1.ends.length kp].toArray 30 (0,0))::(b3,.cells [.slice j3 d2.atoms.length j4,.slice iJ cu.length iK,.slice fi d2.ends.length fj].toArray 30 (0,0))::(b6,.cells (dg (fun i=>(cm.lC d1.atoms i d1.atoms.length:Nat))).toArray 116 (0,0))::(b7,.cells (dg (fun i=>(cm.lC d2.atoms i d2.atoms.length:Nat))).toArray 116 (0,0))::(WL,jd I0 es mc)::jP) (fun i=>Nat.beq i 20) ?_;refine eP 0 rfl sM ?_;refine eK 1 rfl (aD rfl (aI.aO (.own aV)) aS) ?_;refine eP 2 rfl sF ?_;refine eP 3 rfl (aQ rfl rfl (by omega)) ?_;refine eK 4 rfl sL ?_;refine eP 5 rfl sM ?_;refine eP 6 rfl (aQ rfl rfl (by omega)) ?_;refine eK 7 rfl (az rfl ((aI.own aV).iU (j:=c) (mQ (by omega)) (by omega))) ?_;refine eP 9 rfl sM ?_;refine eK 10 rfl (aD rfl (aI.aO (.own aV)) aS) ?_;refine eP 11 rfl sF ?_;refine eP 12 rfl (aQ rfl rfl (by omega)) ?_;refine eK 13 rfl sL ?_;refine eP 14 rfl sM ?_;refine eP 15 rfl (aQ rfl rfl (by omega)) ?_;refine eK 16 rfl (az rfl ((aI.own aV).iU (j:=c) (mQ (by omega)) (by omega))) ?_;refine Cv (ι:=Nat) (fun s8=>[(94,.agg [.int .i64 (gP d1 x.p c),.int .i64 (gP d2 x.q c)].toArray),(16,.pointer (some ⟨s8,0,none⟩))]) [(2,_),(3,_),(6,_),(7,_),(8,_),(9,_),(10,_),(11,_),(12,_),(13,_),(15,_),(34,_),(35,_),(36,_),(37,_),(40,_),(41,_),(42,_),(43,_),(44,_),(45,_),(46,_),(47,_),(48,_),(49,_),(50,_),(51,_),(52,_),(53,_),(54,_),(55,_),(56,_),(73,_),(74,_),(75,_),(76,_),(77,_),(78,_),(79,_),(80,_),(81,_),(82,_),(83,_),(85,_),(86,_),(87,_),(88,_),(89,_),(90,_),(91,_),(92,_)] (fun s8=>(s8,.cells [.int .i64 0,.int .i64 0].toArray 118 (0,0))::(rT,.cells (IZ x).toArray 120 (0,0))::(b2,.cells [.slice lH d1.atoms.length lI,.slice lJ cW.length lK,.slice ko d1.ends.length kp].toArray 30 (0,0))::(b3,.cells [.slice j3 d2.atoms.length j4,.slice iJ cu.length iK,.slice fi d2.ends.length fj].toArray 30 (0,0))::(b6,.cells (dg (fun i=>(cm.lC d1.atoms i d1.atoms.length:Nat))).toArray 116 (0,0))::(b7,.cells (dg (fun i=>(cm.lC d2.atoms i d2.atoms.length:Nat))).toArray 116 (0,0))::(WL,jd I0 es mc)::jP) 1 #[true,true,true,true,true,true,true,true,true,true,true,true,true,true,true,true,true,true,true,true,false] aH (fun hJ=>?_) ?_
       ·refine ej 8 19 rfl rfl (by kernel_rfl) ?_ ?_
        ·refine ff (us:=[]) (vs:=[_,_,_]) (cs:=[]) (mR d1 lH lI lJ lK cW ko kp oW x.p (by have:=RD.bp x (List.mem_of_getElem? ie);omega) (cm.lC d1.atoms c d1.atoms.length) (fun s hs=>by rw[(hS1.rows s.xs (by rw[oW];exact List.mem_map.2 ⟨s,hs,rfl⟩)).1];exact oq _ _ z41)) rfl rfl rfl (by exact .nil) (fun w st=>hw.1.old st) (fun v84 S84 I5=>?_)
         change v84 = .int .i64 (gP d1 x.p c) at I5
         subst I5;refine oX ?_;refine ej 17 19 rfl rfl (by kernel_rfl) ?_ ?_
         ·refine ff (us:=[]) (vs:=[_,_,_]) (cs:=[]) (mR d2 j3 j4 iJ iK cu fi fj nU x.q (by have:=RD.bq x (List.mem_of_getElem? ie);omega) (cm.lC d2.atoms c d2.atoms.length) (fun s hs=>by rw[(IY.rows s.xs (by rw[nU];exact List.mem_map.2 ⟨s,hs,rfl⟩)).1];exact oq _ _ z42)) rfl rfl rfl (by exact .nil) (fun w st=>hw.2.1.old st) (fun WM S93 Aq=>?_)
          change WM = .int .i64 (gP d2 x.q c) at Aq
          subst Aq;refine oX ?_;refine ej 18 19 rfl rfl (by kernel_rfl) ?_ ?_
          ·refine oS (gY [.int .i64 (gP d1 x.p c),.int .i64 (gP d2 x.q c)] rfl rfl rfl rfl (by simp[Value.oneCell'])) ?_;refine oX (eO 19 rfl ?_);refine aB rfl rfl fun s8=>?_;refine oX ?_
           exact dC (by kernel_rfl) (hJ s8 _ _ aH aH aP)
          ·refine aB rfl rfl fun s8=>?_;refine oX (eO 18 rfl ?_);refine oS (gY [.int .i64 (gP d1 x.p c),.int .i64 (gP d2 x.q c)] rfl rfl rfl rfl (by simp[Value.oneCell'])) ?_;refine oX ?_
           exact dC (by kernel_rfl) (hJ s8 _ _ aH aH aP)
         ·refine aB rfl rfl fun s8=>?_;refine oX (eO 17 rfl ?_);refine ff (us:=[]) (vs:=[_,_,_]) (cs:=[]) (mR d2 j3 j4 iJ iK cu fi fj nU x.q (by have:=RD.bq x (List.mem_of_getElem? ie);omega) (cm.lC d2.atoms c d2.atoms.length) (fun s hs=>by rw[(IY.rows s.xs (by rw[nU];exact List.mem_map.2 ⟨s,hs,rfl⟩)).1];exact oq _ _ z42)) rfl rfl rfl (by exact .nil) (fun w st=>hw.2.1.old st) (fun WM S93 Aq=>?_)
          change WM = .int .i64 (gP d2 x.q c) at Aq
          subst Aq;refine oX (eO 18 rfl ?_);refine oS (gY [.int .i64 (gP d1 x.p c),.int .i64 (gP d2 x.q c)] rfl rfl rfl rfl (by simp[Value.oneCell'])) ?_;refine oX ?_
          exact dC (by kernel_rfl) (hJ s8 _ _ aH aH aP)
        ·refine aB rfl rfl fun s8=>?_;refine oX (eO 8 rfl ?_);refine ff (us:=[]) (vs:=[_,_,_]) (cs:=[]) (mR d1 lH lI lJ lK cW ko kp oW x.p (by have:=RD.bp x (List.mem_of_getElem? ie);omega) (cm.lC d1.atoms c d1.atoms.length) (fun s hs=>by rw[(hS1.rows s.xs (by rw[oW];exact List.mem_map.2 ⟨s,hs,rfl⟩)).1];exact oq _ _ z41)) rfl rfl rfl (by exact .nil) (fun w st=>hw.1.old st) (fun v84 S84 I5=>?_)
         change v84 = .int .i64 (gP d1 x.p c) at I5
         subst I5;refine oX (eO 17 rfl ?_);refine ff (us:=[]) (vs:=[_,_,_]) (cs:=[]) (mR d2 j3 j4 iJ iK cu fi fj nU x.q (by have:=RD.bq x (List.mem_of_getElem? ie);omega) (cm.lC d2.atoms c d2.atoms.length) (fun s hs=>by rw[(IY.rows s.xs (by rw[nU];exact List.mem_map.2 ⟨s,hs,rfl⟩)).1];exact oq _ _ z42)) rfl rfl rfl (by exact .nil) (fun w st=>hw.2.1.old st) (fun WM S93 Aq=>?_)
         change WM = .int .i64 (gP d2 x.q c) at Aq
         subst Aq;refine oX (eO 18 rfl ?_);refine oS (gY [.int .i64 (gP d1 x.p c),.int .i64 (gP d2 x.q c)] rfl rfl rfl rfl (by simp[Value.oneCell'])) ?_;refine oX ?_
         exact dC (by kernel_rfl) (hJ s8 _ _ aH aH aP)
       ·rintro s8
        refine eO 20 rfl ?_;refine bf rfl rfl bY aS aS fE ?_;refine ak ?_;refine cE rfl ?_;refine eZ dN (cR fun _ e6=>?_);refine oM ?_;refine oS (aD rfl (aI.aO (.own aV)) aS) ?_;refine oS (ab (v':=.int .i64 (P9 (m.map Bo.pq) (gP d1 x.p c,gP d2 x.q c))) (NJ (Ek:=I0) (k:=(gP d1 x.p c,gP d2 x.q c)) rfl rfl aV) (by rw[hN];exact NF _ _)) ?_
        by_cases hmz:P9 (m.map Bo.pq) (gP d1 x.p c,gP d2 x.q c)=0
        ·have wm:=IX hmz
         refine oS (ab (v':=.bool true) (bO rfl rfl) (congrArg Value.bool (decide_eq_true hmz))) ?_;refine oZ e6 ?_;refine cT (cR fun _ du=>?_);refine oM ?_;refine oS (aD rfl (aI.aO (.own aV)) aS) ?_;refine sY (Ek:=I0) (k:=(gP d1 x.p c,gP d2 x.q c)) rfl rfl rfl bh fun ob c' tQ Rc=>?_;refine oZ du (ae (oM ?_));refine oS (aD rfl (aI.aO (.own aV)) aS) ?_;refine oM (oM ?_);refine oS (ab (v':=.int .u8 ((c:Nat):Int)) (cV rfl) (congrArg _ (tV (by omega)))) ?_;refine oS (bG (cs:=[_,_,_,_]) (vs:=[_,_,_]) rfl rfl (.cons rfl rfl rfl rfl rfl (.cons rfl rfl rfl rfl rfl (.cons rfl rfl rfl rfl rfl (.nil))))) ?_;refine ct (E:=IZ) (xs:=[⟨gP d1 x.p c,gP d2 x.q c,i,c⟩]) (vs:=[_]) rfl rfl rfl rfl rfl (by decide) (by decide) fun alC NK Ar=>?_;refine bX hO (Ar.aU aM) rfl rfl rfl rfl (by simp only[List.length_append,List.length_singleton];omega) (by simp only[List.length_append,List.length_singleton];omega) rfl bh fun adj adk WN I6=>?_;refine oA (ak (aq (xZ eh (ae ?_))));refine oS sD (oM (ak ?_));exact xI (c+1,m++[⟨gP d1 x.p c,gP d2 x.q c,i,c⟩],adj,adk,ob,c',WN) ⟨by omega,by rw[NI] at wm;rw[NI,Gl wm],hU.push wm (I7 hS1 (RD.bp x (List.mem_of_getElem? ie)).2 c) (I7 IY (RD.bq x (List.mem_of_getElem? ie)).2 c) (by omega) (by omega),by simp only[List.length_append,List.length_singleton];omega,by rw[List.map_append];exact Ao hN tQ,I6⟩
        ·have wm:=NG hmz
         refine oS (ab (v':=.bool false) (bO rfl rfl) (congrArg Value.bool (decide_eq_false hmz))) ?_;refine oZ e6 ?_;refine cF (ax (aq (xZ eh (ae ?_))));refine oS sD (oM (ak ?_));exact xI (c+1,m,la,lc,es,mc,jP) ⟨by omega,by rw[NI] at wm;rw[NI,Gm wm],hU,hlm,hN,hO⟩
      ·obtain rfl:c=256:=by omega
       refine ay ?_;refine ad (ad (ag (aq (xZ bQ (ae (oM ?_))))));refine oS sD (oA (ak ?_));exact xI (i+1,m,la,lc,es,mc,jP) ⟨by rw[← ic,Cy (by omega) ie heq,← NI,Nat.sub_sub],by dsimp only;omega,hU,hN,hO⟩
    ·refine oS (ab (v':=.bool false) (aF rfl rfl) (congrArg Value.bool (decide_eq_false (by omega)))) ?_;refine oZ bL ?_;refine cF ?_;refine ay ?_;refine ad (ad (ag (xZ bF (cR fun _ fF=>?_))));refine oA (oA (oZ fF (aA ?_)));refine ?_;exact cr rfl (.tmp rfl (.tmp rfl (.nil))) (⟨[],HSub.nil,.inl ⟨by rw[← ic,Gn (by omega)],rfl⟩⟩)
set_option maxHeartbeats 4000000 in
theorem Cz (d1:Df)(lH:Option Addr)(lI:Nat)(lJ:Option Addr)(lK:Nat)(cW:List (Sl Int))(ko:Option Addr)(kp:Nat)(oW:d1.next=cW.map Sl.xs)(d2:Df)(j3:Option Addr)(j4:Nat)(iJ:Option Addr)(iK:Nat)(cu:List (Sl Int))(fi:Option Addr)(fj:Nat)(nU:d2.next=cu.map Sl.xs):HL.Fn Tryz.prog 20 [.agg [.slice lH d1.atoms.length lI,.slice lJ cW.length lK,.slice ko d1.ends.length kp].toArray,.agg [.slice j3 d2.atoms.length j4,.slice iJ cu.length iK,.slice fi d2.ends.length fj].toArray] (fun w=>Cu d1 lH lI lJ lK cW ko kp w∧Cu d2 j3 j4 iJ iK cu fi fj w∧Tb [] w) [] (UnP (RB d1 d2)):=
 HL.Fn.sub (Gg d1 lH lI lJ lK cW ko kp oW d2 j3 j4 iJ iK cu fi fj nU) fun v S' ⟨S2,h1,h2⟩=>⟨S2,h1,h2⟩
end Go.Proofs.YtmompllplidphaaGreatDoor
namespace Go.HL.Kl.Mc
open Go Go.HL Go.HL.Kl
def ai2 (t:In)(n p i:Nat):List Nat:=
 if t.op=2 then (if p=0 then [i+1] else []) else if t.op=3 then (if p=n then [i+1] else [])
 else if t.op=4 then [t.x.toNat] else if t.op=5 then [t.x.toNat,t.y.toNat] else []
structure anL (m:List In)(n p from_:Nat)(s0 sn:List Bool)(todo:List Nat):Prop where
 len:sn.length=m.length
 a:∀ i:Nat,s0[i]?=some true→sn[i]?=some true
 b:∀ i:Nat,sn[i]?=some true→s0[i]?=some true∨G6 m n p from_ i
 c:∀ t∈todo,G6 m n p from_ t∧t<m.length
 d:∀ i j:Nat,sn[i]?=some true→Eps m n p i j→sn[j]?=some true∨j∈todo
 e:sn[from_]?=some true∨from_∈todo
def aen (l:List Bool):Nat:=l.countP (!·)
def amk (m:List In)(w:List UInt8)(f p j:Nat):Prop:=(p=f∧j=0)∨(f<p∧∃ i,j=i+1∧Run m w (0,f) (i,p-1)∧Eat m w i (p-1))
def u1 (m:List In)(w:List UInt8)(f:Int)(out:List Bool):Prop:=out.length=w.length+1∧∀ t:Nat,out[t]?=some true↔MOk m∧∃ g:Nat,f=g∧g≤w.length∧Hit m w g t
def akX (m:List In)(w:List UInt8)(p:Nat)(q:List Nat)(k:Nat)(sn:List Bool):Prop:=
 sn.length=m.length∧(∀ i:Nat,sn[i]?=some true↔∃ t j:Nat,t<k∧q[t]?=some j∧G6 m w.length p j i)∧∀ i j:Nat,sn[i]?=some true→Eps m w.length p i j→sn[j]?=some true
structure akY (m:List In)(w:List UInt8)(p:Nat)(sn out:List Bool)(k:Nat)(o2:List Bool)(q2:List Nat):Prop where
 len:o2.length=out.length
 st:∀ j,j∈q2↔∃ i,i<k∧j=i+1∧sn[i]?=some true∧Eat m w i p
 out:∀ t:Nat,o2[t]?=some true↔out[t]?=some true∨(t=p∧∃ i u,i<k∧sn[i]?=some true∧m[i]?=some u∧u.op=6)
 le:q2.length≤k
def akZ (m:List In)(w:List UInt8)(f:Int)(v:Value)(S:Hp):Prop:=∃ (a:Option Addr)(c:Nat)(out:List Bool),v = .slice a (w.length+1) c∧aG fR 1 4 v out S∧u1 m w f out
end Go.HL.Kl.Mc
namespace Go.HL
open Go Go.Af
section
variable {α:Type}
def zu (d:Nat→α)(xs:List α)(i:Nat):α:=(xs[i]?).getD (d i)
def yx (d:Nat→α)(xs:List α):List α:=(List.range (xs.length+64)).map (zu d xs)
theorem tG (d:Nat→α)(xs:List α):(yx d xs).length=xs.length+64:=by simp[yx]
theorem MM {d:Nat→α}{xs:List α}{i:Nat}(h:i<xs.length+64):(yx d xs)[i]?=some (zu d xs i):=by
 unfold yx
 rw[List.getElem?_map,List.getElem?_range h];rfl
theorem KK {d:Nat→α}{xs:List α}{i:Nat}{x:α}(h:xs[i]?=some x):x=zu d xs i:=by rw[zu,h];rfl
theorem Fx {d:Nat→α}{xs:List α}{i:Nat}(h:¬ i<xs.length):d i=zu d xs i:=by rw[zu,List.getElem?_eq_none (by omega)];rfl
theorem Hl {d:Nat→α}{xs:List α}{i:Nat}(h1:¬ i<xs.length)(h2:i<xs.length+64):(yx d xs)[i]?=some (d i):=by rw[MM h2,Fx (d:=d) h1]
theorem Lw (d:Nat→α)(xs:List α):(yx d xs).take xs.length=xs:=by
 apply List.ext_getElem?
 intro i
 by_cases hi:i<xs.length
 · rw[List.getElem?_take,if_pos hi,MM (by omega),← KK (List.getElem?_eq_getElem hi),List.getElem?_eq_getElem hi]
 · rw[List.getElem?_eq_none (by rw[List.length_take];omega),List.getElem?_eq_none (by omega)]
theorem KM {d:Nat→α}{xs:List α}{j:Nat}{l:List α}(h:pJ (zu d xs) (xs.length+64) j l)(hj:xs.length+64≤j):l=yx d xs:=h.done hj
theorem mL {a b:List α}(hl:a.length=b.length)(h:∀ i,i<a.length→a[i]?=b[i]?):a=b:=by
 apply List.ext_getElem?
 intro i
 by_cases hi:i<a.length
 · exact h i hi
 · rw[List.getElem?_eq_none (by omega),List.getElem?_eq_none (by omega)]
attribute [irreducible] yx zu
end
end Go.HL
namespace Go.HL.Kl.Mc
open Go Go.HL Go.HL.Kl
def spI (i:Nat):In:=⟨0,0,((1048576*9+i+1:Nat):Int),-7⟩
def CA (b:UInt8):Nd:=⟨1,bit b.toNat,0,0,0,0⟩
def Fh:Nd:=⟨6,0,0,0,-1,1⟩
def reW:List Nd:=[Fh,CA 97]
def ksW:F:=.nd (CA 97) .nil .nil
def mW:List In:=nM (.nd Fh ksW .nil)
theorem iR.uniq {re:List Nd}{x y:Nd}{ks js:F}(h:iR re x ks)(h':iR re y js):x=y∧ks=js:=by
 have:=m3 (.nd x ks .nil) (.nd y js .nil) [] [] h.wf h'.wf rfl (by simp only[F.flat,List.append_nil];rw[← h.flat,← h'.flat])
 simpa using this.1
def wW:List UInt8:=[97,97,98]
attribute [irreducible] mW
end Go.HL.Kl.Mc
namespace Go.HL.cm
open Go Go.HL Go.HL.Kl Go.HL.Kl.Mc
def jO (next:List (List Nat))(n:Nat)(l:List Bool):List Bool:=(List.range n).map fun q=>l[q]?.getD false||(next[q]?.getD []).any fun to=>l[to]?.getD false
def e8 (next:List (List Nat))(ends:List Bool):Nat→List Bool
 | 0=>ends
 | k+1=>jO next next.length (e8 next ends k)
theorem nh {next:List (List Nat)}{ends:List Bool}:∀ (k q:Nat),(e8 next ends k)[q]?=some true→Live next ends q
 | 0,q,h=>.ends h
 | k+1,q,h=>by
   unfold e8 jO at h
   rw[List.getElem?_map] at h
   have hq:q<next.length:=by
     rcases Nat.lt_or_ge q next.length with h1|h1
     · exact h1
     · rw[List.getElem?_eq_none (by simpa using h1)] at h;cases h
   rw[List.getElem?_range hq] at h
   simp only[Option.map_some,Option.some.injEq,Bool.or_eq_true,List.any_eq_true] at h
   have get:∀ x:Nat,(e8 next ends k)[x]?.getD false=true→(e8 next ends k)[x]?=some true:=by
     intro x hx
     cases e:(e8 next ends k)[x]? with
     | none=>rw[e] at hx;cases hx
     | some b=>rw[e] at hx;rw[show b=true from hx]
   rcases h with h|⟨to,kE,h⟩
   · exact nh k q (get q h)
   · rw[List.getElem?_eq_getElem hq,Option.getD_some] at kE
     exact .step (List.getElem?_eq_getElem hq) kE (nh k to (get to h))
theorem FV {next:List (List Nat)}{ends lv:List Bool}(k:Nat)(h:l6 next ends lv)(hlen:ends.length=next.length)(h0:∀ q:Nat,ends[q]?=some true→(e8 next ends k)[q]?=some true)(aaU:jO next next.length (e8 next ends k)=e8 next ends k):lv=e8 next ends k:=by
 have hl:(e8 next ends k).length=next.length:=by rw[← aaU];simp[jO]
 have jq:∀ q,Live next ends q→(e8 next ends k)[q]?=some true:=by
   intro q hL
   induction hL with
   | ends hq=>exact h0 _ hq
   | @step q to row hr hm _ ih=>
     have hq:=(List.getElem?_eq_some_iff.1 hr).1
     rw[← aaU]
     unfold jO
     rw[List.getElem?_map,List.getElem?_range hq]
     simp only[Option.map_some,Option.some.injEq,Bool.or_eq_true,List.any_eq_true]
     exact .inr ⟨to,by rw[hr];exact hm,by rw[ih];rfl⟩
 apply List.ext_getElem?
 intro q
 rcases Nat.lt_or_ge q next.length with hq|hq
 · have h1:=h.2 q
   have h2:(e8 next ends k)[q]?=some true↔Live next ends q:=⟨nh k q,jq q⟩
   obtain⟨x,hx⟩:∃ x,lv[q]?=some x:=⟨_,List.getElem?_eq_getElem (by rw[h.1];exact hq)⟩
   obtain⟨y,hy⟩:∃ y,(e8 next ends k)[q]?=some y:=⟨_,List.getElem?_eq_getElem (by rw[hl];exact hq)⟩
   rw[hx] at h1 ⊢
   rw[hy] at h2 ⊢
   have h3:=h1.trans h2.symm
   congr 1
   cases x <;> cases y <;> simp_all
 · rw[List.getElem?_eq_none (by rw[h.1];exact hq),List.getElem?_eq_none (by rw[hl];exact hq)]
def Ab (c:Nat):Nd:=⟨1,bit c,0,0,0,0⟩
def stN:Nd:=⟨6,0,0,0,-1,1⟩
def Mw:Nd:=⟨4,0,0,0,0,2⟩
def Ed:List Nd:=[Mw,stN,Ab 97,Ab 98]
def VM:F:=.nd stN (.nd (Ab 97) .nil .nil) (.nd (Ab 98) .nil .nil)
def Cc:List Nd:=[Ab 97]
theorem PT:Mc.iR Ed Mw VM:=⟨⟨by decide +kernel,rfl,⟨by decide +kernel,rfl,⟨by decide +kernel,rfl,trivial,trivial⟩,⟨by decide +kernel,rfl,trivial,trivial⟩⟩,trivial⟩,rfl,by decide,by decide +kernel⟩
theorem PU:Mc.iR Cc (Ab 97) .nil:=⟨⟨by decide +kernel,rfl,trivial,trivial⟩,rfl,by decide,by decide +kernel⟩
theorem PV:bz Ed=true:=gm.2 ⟨⟨[],by decide +kernel⟩,_,_,PT⟩
theorem MK:bz Cc=true:=gm.2 ⟨⟨[],by decide +kernel⟩,_,_,PU⟩
theorem agR:∀ x∈Ed,-128≤x.op∧x.op<128:=by simp[Ed,Mw,stN,Ab]
theorem agT:∀ x∈Cc,-128≤x.op∧x.op<128:=by simp[Cc,Ab]
def wA:Wd:=jx Ed Mw VM
def wB:Wd:=jx Cc (Ab 97) .nil
theorem lvA:e8 wA.next wA.ends 3 = [true,false,true,true]:=by decide +kernel
theorem lvB:e8 wB.next wB.ends 3 = [true,false,true]:=by decide +kernel
theorem ahl:jO wA.next wA.next.length (e8 wA.next wA.ends 3)=e8 wA.next wA.ends 3:=by decide +kernel
theorem ahm:jO wB.next wB.next.length (e8 wB.next wB.ends 3)=e8 wB.next wB.ends 3:=by decide +kernel
theorem ahn:wA.ends = [false,false,false,true]:=by decide +kernel
theorem aho:wB.ends = [false,false,true]:=by decide +kernel
theorem ahp:wA.ends.length=wA.next.length:=by decide +kernel
theorem ahq:wB.ends.length=wB.next.length:=by decide +kernel
def mA:Lm:=⟨[0,3],[[-1,0,1],[-1,-1,-1]],[false,true]⟩
def mB:Lm:=⟨[0,2],[[-1,1],[-1,-1]],[false,true]⟩
deriving instance DecidableEq for Lm
theorem lmA:zL Ed Mw VM [true,false,true,true]=some mA:=by decide +kernel
theorem lmB:zL Cc (Ab 97) .nil [true,false,true]=some mB:=by decide +kernel
def dA:Df:=⟨[[-1,0,1],[-1,-1,-1]],[false,true],atoms (bB Ed)⟩
def dB:Df:=⟨[[-1,1],[-1,-1]],[false,true],atoms (bB Cc)⟩
theorem aaV {lv:List Bool}(h:l6 (jx Ed Mw VM).next (jx Ed Mw VM).ends lv):lv = [true,false,true,true]:=by
 rw[show jx Ed Mw VM=wA from by unfold wA;exact Eq.refl _] at h
 rw[← lvA]
 refine FV 3 h ahp (fun q hq=>?_) ahl
 rw[ahn] at hq
 rw[lvA]
 match q,hq with
 | 3,_=>rfl
 | 0,hq=>simp at hq
 | 1,hq=>simp at hq
 | 2,hq=>simp at hq
 | n+4,hq=>simp at hq
theorem aaW {lv:List Bool}(h:l6 (jx Cc (Ab 97) .nil).next (jx Cc (Ab 97) .nil).ends lv):lv = [true,false,true]:=by
 rw[show jx Cc (Ab 97) .nil=wB from by unfold wB;exact Eq.refl _] at h
 rw[← lvB]
 refine FV 3 h ahq (fun q hq=>?_) ahm
 rw[aho] at hq
 rw[lvB]
 match q,hq with
 | 2,_=>rfl
 | 0,hq=>simp at hq
 | 1,hq=>simp at hq
 | n+3,hq=>simp at hq
theorem aaX:ez Ed=false:=by
 rw[ez,show (Ed.any fun x=>x.op==8)=false by decide +kernel,Bool.and_false]
theorem VN:ez Cc=false:=by
 rw[ez,show (Cc.any fun x=>x.op==8)=false by decide +kernel,Bool.and_false]
theorem ahr:(F.nd Mw VM .nil).weight≤20:=by decide +kernel
theorem ahs:(F.nd (Ab 97) .nil .nil).weight≤20:=by decide +kernel
theorem agS {d:Df}(h:yJ Ed d):d=dA:=by
 obtain⟨_,n,ks,lv,m,hS,_,_,hl,hm,h1,h2,h3⟩:=h
 obtain⟨rfl,rfl⟩:=hS.uniq PT
 have e:=aaV hl
 subst e
 have zZ:=hm.symm.trans lmA
 obtain rfl:=Option.some.inj zZ
 obtain⟨nx,en,at_⟩:=d
 exact congr (congr (congrArg Df.mk h1) h2) h3
theorem agU {d:Df}(h:yJ Cc d):d=dB:=by
 obtain⟨_,n,ks,lv,m,hS,_,_,hl,hm,h1,h2,h3⟩:=h
 obtain⟨rfl,rfl⟩:=hS.uniq PU
 have e:=aaW hl
 subst e
 have zZ:=hm.symm.trans lmB
 obtain rfl:=Option.some.inj zZ
 obtain⟨nx,en,at_⟩:=d
 exact congr (congr (congrArg Df.mk h1) h2) h3
theorem aay {e:Int}:¬ rU Ed e:=by
 rintro (⟨h,_⟩|⟨_,h,_⟩|⟨n,ks,hS,_,hw,_⟩|⟨n,ks,lv,hS,_,_,hl,hm,_⟩)
 · rw[PV] at h;cases h
 · rw[aaX] at h;cases h
 · obtain⟨rfl,rfl⟩:=hS.uniq PT
   have:=ahr;omega
 · obtain⟨rfl,rfl⟩:=hS.uniq PT
   have e:=aaV hl
   subst e
   have zZ:=hm.symm.trans lmA
   cases zZ
theorem aaz {e:Int}:¬ rU Cc e:=by
 rintro (⟨h,_⟩|⟨_,h,_⟩|⟨n,ks,hS,_,hw,_⟩|⟨n,ks,lv,hS,_,_,hl,hm,_⟩)
 · rw[MK] at h;cases h
 · rw[VN] at h;cases h
 · obtain⟨rfl,rfl⟩:=hS.uniq PU
   have:=ahs;omega
 · obtain⟨rfl,rfl⟩:=hS.uniq PU
   have e:=aaW hl
   subst e
   have zZ:=hm.symm.trans lmB
   cases zZ
theorem agW:oC dA [97,97,98]=true:=by decide +kernel
theorem agX:oC dA [97,97]=false:=by decide +kernel
theorem aaA:RB dA dB=some [97]:=by decide +kernel
end Go.HL.cm
namespace Go.Proofs.YtmompllplidphaaGreatDoor
open Go Go.HL Go.Proofs Go.HL.Kl Go.HL.Kl.Mc Go.HL.cm
theorem aav:(Ec 0#256).set 1 (.int .u64 8589934592)=Ec (bit 97):=by kernel_rfl
theorem aaw:(Ec 0#256).set 1 (.int .u64 17179869184)=Ec (bit 98):=by kernel_rfl
theorem Iq.Nf {d:Df}{na:Option Addr}{nc:Nat}{rows:List (Sl Int)}{ea:Option Addr}{ec:Nat}{aa:Option Addr}{ac:Nat}{Sn Sq Se Sa H:Hp}{w0 w:World}{M:List Nat}(hR:aG cX 1 36 (.slice na rows.length nc) rows Sn)(hQ:cG Ei 1 3 rows d.next Sq)(hx:d.next=rows.map Sl.xs)(hE:aG fR 1 4 (.slice ea d.ends.length ec) d.ends Se)(hA:aG Ec 4 39 (.slice aa d.atoms.length ac) d.atoms Sa)
   (h1:c4 Sn H)(h2:c4 Sq H)(h3:c4 Se H)(h4:c4 Sa H)(st:St w0 w M H):Cu d aa ac na nc rows ea ec w:=
 ⟨(hA.aU (κ:=⟨0,[],w0,M⟩) h4).out w st,(hR.aU (κ:=⟨0,[],w0,M⟩) h1).out w st,fun _ hs=>(jA (κ:=⟨0,[],w0,M⟩) hQ hx h2 hs).out w st,(hE.aU (κ:=⟨0,[],w0,M⟩) h3).out w st⟩
set_option maxHeartbeats 4000000 in
theorem Lv :HL.Fn Tryz.prog 6 [] (Tb []) [] (fun v _=>v = .bool true):=by
 refine aW Tryz.func6 rfl rfl rfl fun w0 hw=>?_;refine cR fun _ bI=>?_;refine oA (oZ bI (cR fun _ bJ=>?_));refine aB (l:=Ec 0#256) (by rw[bk];rfl) rfl fun b1=>?_;refine aB (l:=Ec 0#256) (by rw[bk];rfl) rfl fun b2=>?_;refine oZ bJ (cR fun _ bK=>?_);refine oS (aQ rfl rfl (by omega)) ?_;refine bg rfl rfl rfl bY (by show _<4;omega) rfl ?_
 rw[show 0+(1:Int).toNat*1=1 from rfl,aav]
 refine oZ bK (cR fun _ bU=>?_);refine oS (aQ rfl rfl (by omega)) ?_;refine bg rfl rfl rfl bY (by show _<4;omega) rfl ?_
 rw[show 0+(1:Int).toNat*1=1 from rfl,aaw]
 refine oZ bU (cR fun _ bT=>?_);refine oS (ab (v':=.agg (En Mw).toArray) (bG (cs:=[_,_,_,_,_,_,_,_,_]) (vs:=[_,_]) rfl rfl (.cons rfl rfl rfl rfl rfl (.cons rfl rfl rfl rfl rfl (.nil)))) (by kernel_rfl)) ?_;refine oS (ab (v':=.agg (En stN).toArray) (bG (cs:=[_,_,_,_,_,_,_,_,_]) (vs:=[_,_,_]) rfl rfl (.cons rfl rfl rfl rfl rfl (.cons rfl rfl rfl rfl rfl (.cons rfl rfl rfl rfl rfl (.nil))))) (by kernel_rfl)) ?_;refine oS (aD rfl (aI.aO (.own aV)) aS) ?_;refine oS (ab (v':=.agg (En (Ab 97)).toArray) (bG (cs:=[_,_,_,_,_,_,_,_,_]) (vs:=[_,_]) rfl rfl (.cons rfl rfl rfl rfl rfl (.cons rfl rfl rfl rfl rfl (.nil)))) (by kernel_rfl)) ?_;refine oS (aD rfl (aI.aO (.own aV)) aS) ?_;refine oS (ab (v':=.agg (En (Ab 98)).toArray) (bG (cs:=[_,_,_,_,_,_,_,_,_]) (vs:=[_,_]) rfl rfl (.cons rfl rfl rfl rfl rfl (.cons rfl rfl rfl rfl rfl (.nil)))) (by kernel_rfl)) ?_;refine ct (E:=En) (xs:=[Mw,stN,Ab 97,Ab 98]) (vs:=[_,_,_,_]) rfl rfl rfl rfl rfl (by decide) (by decide) fun Kf Pw wU=>?_;refine oA (oZ bT (cR fun _ bZ=>?_));refine oM ?_;refine aX (zI (some ⟨Kf,0,none⟩) 4 Ed agR) rfl rfl rfl (by exact .nil) (fun w st=>⟨(wU.aU aM).out w st,dI hw st HSub.nil⟩) (fun v21 S21 ZA=>?_)
 rcases ZA with ⟨he,_⟩|⟨hd,hv,ho⟩
 ·exact absurd he aay
 obtain rfl:=agS hd
 obtain⟨lJ,lK,cW,ko,kp,lH,lI,Zx,Zy,Oh,Zz,rfl,rfl,Wc,We,oW,JK,Wf⟩:=ho
 subst hv;refine oM ?_;refine oS sE ?_;refine oS sE ?_;refine aB rfl rfl fun b4=>?_;refine bf rfl rfl bY aS aS fE ?_;refine oA (oZ bZ (cR fun _ cj=>?_));refine oM ?_;refine oS (ab (v':=.slice (eu (some ⟨Kf,0,none⟩) 4 2 9) Cc.length (4-2)) (BM rfl rfl rfl (by omega)) rfl) ?_;refine aX (zI (eu (some ⟨Kf,0,none⟩) 4 2 9) (4-2) Cc agT) rfl rfl rfl (by exact .nil) (fun w st=>⟨((wU.aU aM).out w st).mid 2 3 (by decide) (by decide),dI hw st HSub.nil⟩) (fun v27 S27 Em=>?_)
 rcases Em with ⟨he,_⟩|⟨hd,hv,ho⟩
 ·exact absurd he aaz
 obtain rfl:=agU hd
 obtain⟨iJ,iK,cu,fi,fj,j3,j4,MR,tn,ny,ZB,rfl,rfl,EP,hQ2,nU,Qn,Lx⟩:=ho
 subst hv;refine oM ?_;refine oS sE ?_;refine oS sE ?_;refine aB rfl rfl fun b6=>?_;refine bf rfl rfl bY aS aS fE ?_;refine oA (oZ cj (cR fun _ ck=>?_));refine oS (aD rfl (aI.aO (.own aV)) aS) ?_;refine oS (aD rfl (aI.aO (.own aV)) aS) ?_;refine aX (Cz dA lH lI lJ lK cW ko kp oW dB j3 j4 iJ iK cu fi fj nU) rfl rfl rfl (by exact .nil) (fun w st=>⟨Iq.Nf Wc We oW JK Wf aM aM aM aM st,Iq.Nf EP hQ2 nU Qn Lx aM aM aM aM st,dI hw st HSub.nil⟩) (fun xx S33 hU=>?_)
 rcases hU with ⟨hn,_⟩|⟨t,ua,uc,ht,hv,hUO⟩
 ·rw[aaA] at hn;cases hn
 rw[aaA] at ht
 obtain rfl:=Option.some.inj ht
 subst hv;refine oM ?_;refine oS sE ?_;refine oS sE (oA (oA (oZ ck (cR fun _ cQ=>?_))));refine oM ?_;refine oS (ab (v':=.bool true) (bO rfl rfl) rfl) ?_;refine oM ?_;refine oY (oM ?_);refine oY ?_;refine oS (ab (v':=.bool true) (bO rfl rfl) rfl) ?_;refine oS sT (oM ?_);refine oY ?_;refine oS sF ?_;refine oY ?_;refine oS sL ?_;refine oY ?_;refine oS sC ?_;refine oY ?_;refine oS (ab (v':=.bool true) (bO rfl rfl) rfl) ?_;refine oS sT (oM ?_);refine oY ?_;refine oS (aD rfl (aI.aO (.own aV)) aS) ?_;refine oY ?_;refine ct (E:=Eb) (xs:=[97,97,98]) (vs:=[_,_,_]) rfl rfl rfl rfl rfl (by decide) (by decide) fun b50 Ia q7=>?_;refine oY ?_;refine r7 rfl q7 bh rfl fun S51 agV=>?_;refine oY ?_;refine ar (xD dA lH lI lJ lK cW ko kp oW (some ⟨b50,0,none⟩) 3 [97,97,98]) rfl rfl rfl (fun w st=>⟨Iq.Nf Wc We oW JK Wf aM aM aM aM st,dI hw st HSub.nil,(agV.aU aM).out w st⟩) (fun v52 uC=>?_)
 rw[agW] at uC
 subst uC;refine oS sT (oM ?_);refine oY ?_;refine oS (aD rfl (aI.aO (.own aV)) aS) ?_;refine oY ?_;refine ct (E:=Eb) (xs:=[97,97]) (vs:=[_,_]) rfl rfl rfl rfl rfl (by decide) (by decide) fun XV QV zO=>?_;refine oY ?_;refine r7 rfl zO bh rfl fun S57 Vg=>?_;refine oY ?_;refine ar (xD dA lH lI lJ lK cW ko kp oW (some ⟨XV,0,none⟩) 2 [97,97]) rfl rfl rfl (fun w st=>⟨Iq.Nf Wc We oW JK Wf aM aM aM aM st,dI hw st HSub.nil,(Vg.aU aM).out w st⟩) (fun v58 PG=>?_)
 rw[agX] at PG
 subst PG;refine oY ?_;refine oS (aT rfl) ?_;refine oS sT (oM ?_);refine oY (oM ?_);refine oS sT (oM ?_);refine oY (oM ?_);refine oY ?_;refine oS (Oz rfl (hUO.aU aM) rfl) ?_;refine oY ?_;refine oS (ab (v':=.bool true) (HQ rfl rfl) rfl) ?_;refine oS sT (oA (oZ cQ (aA ?_)));refine ?_;exact xR rfl rfl (rfl)
end Go.Proofs.YtmompllplidphaaGreatDoor
namespace Go.HL.cm
open Go Go.HL Go.HL.Kl Go.HL.Kl.Mc
def spZ (j:Nat):Int:=((1048576*9+j+1:Nat):Int)
def spC (j:Nat):Kl.Cl:=BitVec.ofNat 256 ((1048576*9+j+1)+7*2 ^ 64)
def WC (j:Nat):Bool:=decide (IntKind.i64.wrap ((BitVec.ofInt IntKind.i64.bits (((1048576*9+j+1:Nat):Int).fdiv (2 ^ (min ((20+j % 8:Nat):Int).toNat IntKind.i64.bits))) &&& BitVec.ofInt IntKind.i64.bits 1).toNat:Int)=1)
end Go.HL.cm
namespace Go.HL.Kl.Mc
open Go Go.HL Go.HL.Kl
theorem NZ {re:List Nd}(hs:bz re=true)(hr:ez re=false):∀ x∈re,¬ x.op=8:=fun x hx h8=>by rw[pZ hs hx h8] at hr;cases hr
theorem Part.ll {re:List Nd}{x y:Nd}{ks js:F}{i e e':Nat}(h:Part re (.nd x ks .nil) i e)(h':Part re (.nd y js .nil) i e'):x=y∧ks=js∧e=e':=by
 have hk:=h.uniq h'
 subst hk
 obtain⟨h0,_,_⟩:=h.head
 obtain⟨h0',_,_⟩:=h'.head
 have hl:=h.len
 have XG:=h'.len
 exact⟨by rw[h0] at h0';exact Option.some.inj h0',rfl,by simp only[F.size] at hl XG;omega⟩
def RR (x:Nd)(D:Nat→Nat→Prop)(r p q:Nat):Prop:=∃ k:Nat,x.mn≤((r+k:Nat):Int)∧(x.mx = -1∨((r+k:Nat):Int)≤x.mx)∧pow D k p q
def RQ (x:Nd)(D:Nat→Nat→Prop)(r p q m:Nat):Prop:=(x.mx = -1∨(r:Int)<x.mx)∧(m≠p∨(r:Int)<x.mn∨r=0)∧D p m∧RR x D (r+1) m q
theorem Hw {x:Nd}{D:Nat→Nat→Prop}{p q:Nat}:rounds x D p q↔RR x D 0 p q:=by simp[rounds,RR]
inductive Ue (w:List UInt8)(re:List Nd):Ky→Prop
 | alt {x:Nd}{ks:F}{i i1 p q:Nat}(hp:Part re (.nd x ks .nil) i i1)(h5:x.op=5)(h:kn w ks true p q):Ue w re ⟨i,-1,p,q⟩
 | cat {x:Nd}{ks g:F}{i i1 m p q:Nat}(hp:Part re (.nd x ks .nil) i i1)(h4:x.op=4)(hg:Part re g m i1)(h:kn w g false p q):Ue w re ⟨i,m,p,q⟩
 | rep {x:Nd}{ks:F}{i i1 r p q:Nat}(hp:Part re (.nd x ks .nil) i i1)(h6:x.op=6)(h:RR x (kn w ks false) r p q):Ue w re ⟨i,r,p,q⟩
def rS (w:List UInt8)(re:List Nd)(es:List Me):Prop:=∀ k,Uf es k=0∨(Uf es k=1∧Ue w re k)∨(Uf es k = -1∧¬ Ue w re k)
open Classical in
noncomputable def dQ (Q:Prop):Bool:=decide Q
attribute [irreducible] dQ
structure jg where
 (bRe bTx bA bS bE bM nF rF:Nat)
 (ra:Option Addr)(rc:Nat)(re:List Nd)(ta:Option Addr)(tc:Nat)(tx:List UInt8)(l:List Nat)
namespace jg
abbrev QM (K:jg):Value:=.slice K.ra K.re.length K.rc
abbrev QN (K:jg):Value:=.slice K.ta K.tx.length K.tc
abbrev ven (K:jg):Value:=.slice (some ⟨K.bE,0,none⟩) K.re.length K.re.length
abbrev pt (b:Nat):Value:=.pointer (some ⟨b,0,none⟩)
abbrev cells (K:jg):List Value:=[K.QM,K.ven,K.QN,.map (some K.bM),.func (.func K.nF) [].toArray [pt K.bRe,pt K.bTx,pt K.bA].toArray,.func (.func K.rF) [].toArray [pt K.bA].toArray]
end jg
open jg
structure Env (w:World)(K:jg)(M:List Nat):Prop where
 p1:r9 w K.bRe 0 [K.QM]
 p2:r9 w K.bTx 0 [K.QN]
 p3:r9 w K.bA 0 [pt K.bS]
 p4:r9 w K.bS 0 K.cells
 d1:Rd En w K.QM K.re
 d2:Rd Eb w K.QN K.tx
 d3:Rd jo w K.ven K.l
 n1:K.bRe∉M
 n2:K.bTx∉M
 n3:K.bA∉M
 n4:K.bS∉M
 a1:ew M K.QM
 a2:ew M K.QN
 a3:ew M K.ven
structure jg.ok (K:jg):Prop where
 Gz:∀ x∈K.re,-128≤x.op∧x.op<128
 no8:∀ x∈K.re,¬ x.op=8
 len:K.re.length≤1000000
 tx:K.tx.length≤1000000
 ends:TO K.re 0 K.l
def Ug (K:jg)(Q:Prop)(v:Value)(S':Hp):Prop:=∃ es c,v = .bool (dQ Q)∧S' = [(K.bM,Ey es c)]∧rS K.tx K.re es
def ajm (P:Program)(K:jg)(x:Nd)(ks:F):Prop:=∀ (i i1 p q:Nat)(es:List Me)(c:Nat),Part K.re (.nd x ks .nil) i i1→p≤q→q≤K.tx.length→rS K.tx K.re es →
 Fn P K.nF [.int .i64 i,.int .i64 p,.int .i64 q,pt K.bRe,pt K.bTx,pt K.bA] (fun W=>Env W K [K.bM]) [(K.bM,Ey es c)] (Ug K (fw K.tx x ks p q))
def ajn (P:Program)(K:jg)(k:Ky):Prop:=∀ (es:List Me)(c:Nat),rS K.tx K.re es →
 Fn P K.rF [.agg (Ek k).toArray,pt K.bA] (fun W=>Env W K [K.bM]) [(K.bM,Ey es c)] (Ug K (Ue K.tx K.re k))
def ajo (P:Program)(K:jg)(fn:Nat)(k:Ky):Prop:=∀ (es:List Me)(c:Nat),rS K.tx K.re es →
 Fn P fn [pt K.bS,.agg (Ek k).toArray] (fun W=>Env W K [K.bM]) [(K.bM,Ey es c)] (Ug K (Ue K.tx K.re k))
def Grt (Q:Nat→Prop)(p q m:Nat):Prop:=p≤m∧m≤q∧Q m∧∀ n,m<n→n≤q→¬ Q n
def afa (K:jg)(Q:Nat→Prop)(p q:Nat)(v:Value)(S':Hp):Prop:=∃ es c,S' = [(K.bM,Ey es c)]∧rS K.tx K.re es ∧
 ((∃ m,Grt Q p q m∧v = .tuple #[.int .i64 m,.bool true])∨((∀ m,p≤m→m≤q→¬ Q m)∧v = .tuple #[.int .i64 0,.bool false]))
def aob (P:Program)(K:jg)(fn:Nat)(k:Ky)(Q:Nat→Prop)(p q:Nat):Prop:=∀ (es:List Me)(c:Nat),rS K.tx K.re es →
 Fn P fn [pt K.bS,.agg (Ek k).toArray] (fun W=>Env W K [K.bM]) [(K.bM,Ey es c)] (afa K Q p q)
end Go.HL.Kl.Mc
namespace Go.HL.Kl.Mc
open Go Go.HL Go.HL.Kl
theorem DI {w:List UInt8}{x:Nd}{ks:F}{p q:Nat}(h:x.op=1):fw w x ks p q↔q=p+1∧∃ b,w[p]?=some b∧x.set.getLsbD b.toNat=true:=by rw[ei,if_pos h]
theorem Ll {w:List UInt8}{x:Nd}{ks:F}{p q:Nat}(h:x.op=2):fw w x ks p q↔p=0∧q=0:=by rw[ei,if_neg (by omega),if_pos h]
theorem Ln {w:List UInt8}{x:Nd}{ks:F}{p q:Nat}(h:x.op=3):fw w x ks p q↔p=w.length∧q=p:=by rw[ei,if_neg (by omega),if_neg (by omega),if_pos h]
theorem zD {w:List UInt8}{x:Nd}{ks:F}{p q:Nat}(h:x.op=4∨x.op=7):fw w x ks p q↔kn w ks false p q:=by rw[ei,if_neg (by omega),if_neg (by omega),if_neg (by omega),if_neg (by omega),if_neg (by omega)]
theorem Lo {w:List UInt8}{x:Nd}{ks:F}{p q:Nat}(h:x.op=5):fw w x ks p q↔kn w ks true p q:=by rw[ei,if_neg (by omega),if_neg (by omega),if_neg (by omega),if_pos h]
theorem Ur {w:List UInt8}{x:Nd}{ks:F}{p q:Nat}(h:x.op=6):fw w x ks p q↔RR x (kn w ks false) 0 p q:=by rw[ei,if_neg (by omega),if_neg (by omega),if_neg (by omega),if_neg (by omega),if_pos h,Hw]
theorem FH {w:List UInt8}{y:Nd}{js:F}{p q:Nat}:kn w (.nd y js .nil) false p q↔fw w y js p q:=by
 rw[pF]
 exact⟨fun⟨t,h1,h2⟩=>by rw[s9] at h2;exact h2 ▸ h1,fun h=>⟨q,h,s9.2 rfl⟩⟩
theorem eN {x:Nd}{ks:F}(hw:(F.nd x ks .nil).wf)(h:x.op=6∨x.op=7):∃ y js,ks = .nd y js .nil:=by
 have pd:eH x=true:=hw.1
 have hk:(ks.num:Int)=x.kids:=hw.2.1
 have h1:x.kids=1:=by
   simp only[eH,Bool.and_eq_true] at pd
   have:=pd.2
   simp only[gi] at this
   rcases h with h|h <;> simp[h] at this <;> omega
 cases ks with
 | nil=>simp[F.num] at hk;omega
 | nd y js r=>
   cases r with
   | nil=>exact⟨y,js,rfl⟩
   | nd z a b=>simp[F.num] at hk;omega
def Up (D:Nat→Nat→Prop):Prop:=∀ p q,D p q→p≤q
def agA (x:Nd)(r:Nat):Nat:=if x.mx<0 then min (r+1) (max x.mn.toNat 1) else r+1
theorem qu {x:Nd}(pd:eH x=true)(h6:x.op=6):0≤x.mn∧x.mn≤255∧(x.mx = -1∨x.mn≤x.mx∧x.mx≤255):=by
 simp only[eH,sJ,Bool.and_eq_true] at pd
 have h:=pd.1.2
 rw[if_pos h6] at h
 simpa using h
structure Sp where
 fr:Int
 to:Int
 deriving DecidableEq
def PY (s:Sp):List Value:=[.int .i64 s.fr,.int .i64 s.to]
instance:eB PY 2:=⟨fun _=>rfl,fun x v hv=>by
 simp only[PY,List.mem_cons,List.not_mem_nil,or_false] at hv
 rcases hv with rfl|rfl <;> rfl⟩
def noS:Sp:=⟨-1,-1⟩
def fg1 (cs:List Sp)(x:Nd):List Sp:=if x.op=7 then cs.set x.n.toNat noS else cs
def fgt (l:List Nd)(cs:List Sp):List Sp:=l.foldl fg1 cs
def akH (re:List Nd)(a j:Nat)(cs:List Sp):List Sp:=fgt ((re.drop a).take (j-a)) cs
open Classical in
noncomputable def grt (Q:Nat→Prop)(p q:Nat):Nat:=if h:∃ m,Grt Q p q m then h.choose else 0
attribute [irreducible] grt
noncomputable def pz (x:Nd)(D:Nat→Nat→Prop)(B:Nat→Nat→List Sp→List Sp)(q:Nat):Nat→Nat→Nat→List Sp→List Sp
 | 0,_,_,cs=>cs
 | f+1,r,p,cs=>if dQ (∃ m,Grt (RQ x D r p q) p q m)=true then pz x D B q f (agA x r) (grt (RQ x D r p q) p q) (B p (grt (RQ x D r p q) p q) cs) else cs
noncomputable def Ni (w:List UInt8):F→Bool→Nat→Nat→List Sp→List Sp
 | .nil,_,_,_,cs=>cs
 | .nd x ks r,m,p,q,cs=>
   let one:Nat→Nat→List Sp→List Sp:=fun p q cs=>
     if x.op=7 then (Ni w ks false p q (fgt ks.flat cs)).set x.n.toNat ⟨p,q⟩
     else if x.op=5 then Ni w ks true p q cs
     else if x.op=4 then Ni w ks false p q cs
     else if x.op=6 then pz x (kn w ks false) (fun p q cs=>Ni w ks false p q (fgt ks.flat cs)) q ((q-p)+max x.mn.toNat 1+1) 0 p cs
     else cs
   if m=true then (if dQ (fw w x ks p q)=true then one p q cs else Ni w r true p q cs)
   else Ni w r false (grt (fun n=>fw w x ks p n∧kn w r false n q) p q) q (one p (grt (fun n=>fw w x ks p n∧kn w r false n q) p q) cs)
noncomputable def Rm (w:List UInt8)(x:Nd)(ks:F)(p q:Nat)(cs:List Sp):List Sp:=
 if x.op=7 then (Ni w ks false p q (fgt ks.flat cs)).set x.n.toNat ⟨p,q⟩
 else if x.op=5 then Ni w ks true p q cs
 else if x.op=4 then Ni w ks false p q cs
 else if x.op=6 then pz x (kn w ks false) (fun p q cs=>Ni w ks false p q (fgt ks.flat cs)) q ((q-p)+max x.mn.toNat 1+1) 0 p cs
 else cs
def Wz (l:List Nd):Nat:=l.countP (fun x=>decide (x.op=7))
def aqm (re:List Nd)(b i i' b':Nat):Prop:=b'+Wz (re.take i)=b+Wz (re.take i')∧∀ j x,i≤j→j<i'→re[j]?=some x→x.op=7→x.n+(Wz (re.take i):Nat)=(b:Int)+(Wz (re.take j):Nat)+1
end Go.HL.Kl.Mc
namespace Go.HL
open Go
end Go.HL
namespace Go.HL.Kl.Mc
open Go Go.HL Go.HL.Kl jg
structure ak9 (T n:Nat) where
 (bE bM bA bS:Nat)(S:Hp)
 (h:aG jo 1 T (.slice (some ⟨bE,0,none⟩) n n) (List.replicate n 0) S)
noncomputable def Ag (w:List UInt8)(re:List Nd)(x:Nd)(ks:F)(p q:Nat):List Sp:=(Rm w x ks p q (List.replicate (Wz re+1) noS)).set 0 ⟨p,q⟩
def PX (re:List Nd)(n:Nat):Prop:=∀ y∈re,y.op=7→0≤y.n∧y.n.toNat<n
def WA (K:jg)(T:Nat)(ca:Option Addr)(cc N:Nat)(cs:List Sp)(S':Hp):Prop:=∃ es c Sc,S'=(K.bM,Ey es c)::Sc∧rS K.tx K.re es∧aG PY 2 T (.slice ca N cc) cs Sc
def ahX (P:Program)(K:jg)(fn T:Nat)(x:Nd)(ks:F):Prop:=∀ (i i1 p q:Nat)(es:List Me)(c:Nat)(ca:Option Addr)(cc N:Nat)(cs:List Sp)(Sc:Hp),Part K.re (.nd x ks .nil) i i1→p≤q→q≤K.tx.length→fw K.tx x ks p q→rS K.tx K.re es→cs.length=N→PX K.re N→aG PY 2 T (.slice ca N cc) cs Sc →
 Fn P fn [pt K.bS,.int .i64 i,.int .i64 p,.int .i64 q,.slice ca N cc] (fun W=>Env W K (keys ((K.bM,Ey es c)::Sc))) ((K.bM,Ey es c)::Sc) (fun _ S'=>WA K T ca cc N (Rm K.tx x ks p q cs) S')
def ahY (K:jg)(T:Nat)(cs:List Sp)(v:Value)(S':Hp):Prop:=∃ es c a cc Sc,v = .slice a cs.length cc∧S'=(K.bM,Ey es c)::Sc∧aG PY 2 T (.slice a cs.length cc) cs Sc
end Go.HL.Kl.Mc
namespace Go.HL.Kl.Mc
open Go Go.HL Go.HL.Kl
def Zu (T n:Nat)(v:Value)(S':Hp):Prop:=∃ (a:Option Addr)(c:Nat)(m:List In),v = .slice a m.length c∧m.length=n∧aG Ql 7 T (.slice a m.length c) m S'
def ajt (P:Program)(fn T:Nat)(x:Nd)(ks:F):Prop:=∀ (ma:Option Addr)(mc:Nat)(m:List In)(Sm:Hp)(ra:Option Addr)(rc:Nat)(re:List Nd)(i i1:Nat),(∀ x∈re,-128≤x.op∧x.op<128)→(∀ x∈re,¬ x.op=8)→re.length≤1000000→Part re (.nd x ks .nil) i i1→aG Ql 7 T (.slice ma m.length mc) m Sm→m.length+OV x ks≤70000 →
 Fn P fn [.slice ma m.length mc,.slice ra re.length rc,.int .i64 i] (fun W=>Rd En W (.slice ra re.length rc) re∧ew (keys Sm) (.slice ra re.length rc)) Sm (Zu T (m.length+OV x ks))
end Go.HL.Kl.Mc
namespace Go.HL.Kl.Mc
open Go Go.HL Go.HL.Kl Go.RowKit Go.ChangeShapes Go.WideShapes Go.ChangeAt
def Tq (w:BitVec 64):List Value:=[Ew w]
instance:eB Tq 1:=⟨fun _=>rfl,fun _ v hv=>by simp[Tq,Ew] at hv;subst hv;rfl⟩
theorem L5 {P:Program}{t:TypeId}(ht:P.underlying t=some (.int .u64)):gz P t Tq (fun _ _=>True):=by
 refine⟨fun enc w fuel cs x h _=>?_⟩
 obtain⟨n,rfl,_,hw⟩:=DataW.trod_int ht h
 have hb:0≤n∧n≤18446744073709551615:=by
   simp only[Lit.wf] at hw
   simpa [IntKind.min,IntKind.max,IntKind.signed,IntKind.bits] using hw
 refine⟨BitVec.ofNat 64 n.toNat,?_,trivial⟩
 have e:(BitVec.ofNat 64 n.toNat).toNat=n.toNat:=by
   rw[BitVec.toNat_ofNat]
   exact Nat.mod_eq_of_lt (by rw[show (2:Nat) ^ 64=18446744073709551616 from by decide];omega)
 simp only[Tq,Ew,e,List.cons.injEq,Value.int.injEq,true_and,and_true]
 omega
def X4 (a b c d:BitVec 64):Cl:=lQ (lQ (lQ (lQ 0 0 a) 1 b) 2 c) 3 d
theorem U6 (a b c d:BitVec 64):Ec (X4 a b c d) = [Ew a,Ew b,Ew c,Ew d]:=by
 simp[Ec,X4,fO]
theorem Nv {P:Program}{t e:TypeId}(ht:P.underlying t=some (.array 4 e))(he:P.underlying e=some (.int .u64))(hk:P.cellsOf e=1)(hc:P.cellsOf t=4):gz P t Ec (fun _ _=>True):=by
 refine⟨fun enc w fuel cs x h hw=>?_⟩
 obtain⟨xs,rfl,hl,_⟩:=(CI ht hk (by rw[hc]) (L5 he)).out enc w fuel cs x h hw
 match xs,hl with
 | [a,b,c,d],_=>exact⟨X4 a b c d,by rw[U6];rfl,trivial⟩
def Ei8 (n:Int):List Value:=[.int .i8 n]
instance:eB Ei8 1:=⟨fun _=>rfl,fun _ _ h=>by simp[Ei8] at h;subst h;rfl⟩
theorem Nu {P:Program}{t:TypeId}(ht:P.underlying t=some (.int .i8)):gz P t Ei8 (fun _ n=>-128≤n∧n<128):=by
 refine⟨fun enc w fuel cs x h _=>?_⟩
 obtain⟨n,rfl,_,hw⟩:=DataW.trod_int ht h
 refine⟨n,rfl,?_⟩
 simp only[Lit.wf] at hw
 have:-128≤n∧n≤127:=by simpa [IntKind.min,IntKind.max,IntKind.signed,IntKind.bits] using hw
 omega
theorem yw {P:Program}{t:TypeId}{f0 f1 f2 f3 f4 f5:Field}{α0 α1 α2 α3 α4 α5 γ:Type}{E0:α0→List Value}{E1:α1→List Value}{E2:α2→List Value}{E3:α3→List Value}{E4:α4→List Value}{E5:α5→List Value}{E:γ→List Value}{M0:World→α0→Prop}{M1:World→α1→Prop}{M2:World→α2→Prop}{M3:World→α3→Prop}{M4:World→α4→Prop}{M5:World→α5→Prop}{Mem:World→γ→Prop}
   (ht:P.underlying t=some (.struct #[f0,f1,f2,f3,f4,f5]))(h0:f0.offset=0)(h1:f1.offset=P.cellsOf f0.type)(h2:f2.offset=P.cellsOf f0.type+P.cellsOf f1.type)(h3:f3.offset=P.cellsOf f0.type+P.cellsOf f1.type+P.cellsOf f2.type)
   (h4:f4.offset=P.cellsOf f0.type+P.cellsOf f1.type+P.cellsOf f2.type+P.cellsOf f3.type)(h5:f5.offset=P.cellsOf f0.type+P.cellsOf f1.type+P.cellsOf f2.type+P.cellsOf f3.type+P.cellsOf f4.type)(hc:P.cellsOf t=P.cellsOf f0.type+P.cellsOf f1.type+P.cellsOf f2.type+P.cellsOf f3.type+P.cellsOf f4.type+P.cellsOf f5.type)
   (o0:gz P f0.type E0 M0)(o1:gz P f1.type E1 M1)(o2:gz P f2.type E2 M2)(o3:gz P f3.type E3 M3)(o4:gz P f4.type E4 M4)(o5:gz P f5.type E5 M5)(mk:∀ w a b c d e f,M0 w a→M1 w b→M2 w c→M3 w d→M4 w e→M5 w f→∃ z,E z=E0 a++(E1 b++(E2 c++(E3 d++(E4 e++E5 f))))∧Mem w z):gz P t E Mem:=by
 refine⟨fun enc w fuel cs x h hw=>?_⟩
 obtain⟨hl,n,hf⟩:=A6 ht h hw
 obtain⟨y0,e0,w0⟩:=hf 0 f0 rfl
 obtain⟨y1,e1,w1⟩:=hf 1 f1 rfl
 obtain⟨y2,e2,w2⟩:=hf 2 f2 rfl
 obtain⟨y3,e3,w3⟩:=hf 3 f3 rfl
 obtain⟨y4,e4,w4⟩:=hf 4 f4 rfl
 obtain⟨y5,e5,w5⟩:=hf 5 f5 rfl
 obtain⟨a,ha,ma⟩:=o0.out enc w _ _ _ e0 w0
 obtain⟨b,hb,mb⟩:=o1.out enc w _ _ _ e1 w1
 obtain⟨c,IB,mc⟩:=o2.out enc w _ _ _ e2 w2
 obtain⟨d,hd,md⟩:=o3.out enc w _ _ _ e3 w3
 obtain⟨e,he,me⟩:=o4.out enc w _ _ _ e4 w4
 obtain⟨f,hff,mf⟩:=o5.out enc w _ _ _ e5 w5
 obtain⟨z,hz,hm⟩:=mk w a b c d e f ma mb mc md me mf
 refine⟨z,?_,hm⟩
 rw[hz,← ha,← hb,← IB,← hd,← he,← hff,h0,h1,h2,h3,h4,h5,List.drop_zero,List.take_of_length_le (l:=cs.drop (P.cellsOf f0.type+_+_+_+_)) (by rw[List.length_drop];omega),← kg,← kg,← kg,← kg,List.take_append_drop]
end Go.HL.Kl.Mc
