/- Part of the proofs over this seat: see the text that holds the theorem. Conditions: each theorem bears its own. -/
import Derived.Test.YtmompllplidphaaGreatDoorHTZ
import Derived.Test.YtmompllplidphaaGreatDoorMC9Z
import Derived.Test.YtmompllplidphaaGreatDoorHlB
import Derived.Test.YtmompllplidphaaGreatDoorGB1Z
import Derived.Test.YtmompllplidphaaGreatDoorGSN1Z
namespace Go.Proofs.YtmompllplidphaaGreatDoor
open Go Go.HL Go.Proofs Go.Af Go.HL.Kl Go.HL.Kl.Mc Go.HL.cm
set_option maxHeartbeats 1000000 in
theorem so (b:Nat)(cs:List Value)(sls:List (Sl Kl.Cl))(oa:Option Addr)(oc:Nat)(So Si:Hp)(hb:cs[7]?=some (.slice oa sls.length oc))(hN:sls.length≤400)(hlen:∀ (j:Nat)(s:Sl Kl.Cl),sls[j]?=some s→s.xs.length≤4294967296)(hO:aG cX 1 26 (.slice oa sls.length oc) sls So)(yT:List (List Kl.Cl))(hI:cG Ec 4 39 sls yT Si):HL.Fn Tryz.prog 57 [.pointer (some ⟨b,0,none⟩)] (fun _=>True) ((b,.cells cs.toArray 63 (0,0))::(So++Si)) (fun v S'=>v = .bool true∧S'=(b,.cells cs.toArray 63 (0,0))::So):=by
 refine aW Tryz.func57 rfl rfl rfl fun w0 hw=>?_
 have gu:=hO.sl
 refine cR fun _ bI=>?_;refine oA (oZ bI (ah fun _ bJ=>?_));refine cR fun _ bK=>?_;refine oA (oZ bK (ai ?_));refine dt (fun (n:Nat)(dO:List (List Kl.Cl))(Si:Hp)=>n≤sls.length∧cG Ec 4 39 sls dO Si∧∀ j s,j<n→sls[j]?=some s→dO[j]?=some (j9 iM j s.xs.length)) (fun (n:Nat)(dO:List (List Kl.Cl))(Si:Hp)=>[(3,.int .i64 n)]) [(0,_),(2,_)] (fun (n:Nat)(dO:List (List Kl.Cl))(Si:Hp)=>(b,.cells cs.toArray 63 (0,0))::(So++Si)) (fun (n:Nat)(dO:List (List Kl.Cl))(Si:Hp)=>sls.length-n) 0 _ _ ⟨by omega,hI,fun j s hj=>by omega⟩ aH aH aP ?_
 rintro n dO Si ⟨hn,hI,hA⟩
 refine ah fun _ bU=>?_;refine cR fun _ bT=>?_;refine oM (oM ?_);refine oS sN ?_;refine oS sF ?_;refine oS (az rfl (.own aV hb)) ?_;refine oS sC ?_;refine oS (aF rfl rfl) ?_;refine oZ bT ?_;refine cx rfl (fun cH=>?_) (fun cH=>?_)
 ·obtain⟨s,hs⟩:=kx (sls:=sls) (n:=n) (by omega)
  obtain⟨xs,S1,Xi,S2,hx,rfl,qG,q8⟩:=hI.at hs
  have mH:=qG.uF
  have jr:=hlen n s hs
  refine ax (xZ bU (ah fun _ bZ=>?_));refine ai (cR fun _ cj=>?_);refine oA (oZ cj (ai ?_));refine dt (fun (i:Nat)(l:List Kl.Cl)(Sn:Hp)=>i≤s.xs.length∧Af.pJ (iM n) s.xs.length i l∧aG Ec 4 39 s.v l Sn) (fun (i:Nat)(l:List Kl.Cl)(Sn:Hp)=>[(4,.int .i64 i)]) [(0,_),(2,_),(3,_),(14,_),(15,_),(16,_),(17,_),(18,_),(19,_),(20,_)] (fun (i:Nat)(l:List Kl.Cl)(Sn:Hp)=>(b,.cells cs.toArray 63 (0,0))::(So++(S1++(Sn++S2)))) (fun (i:Nat)(l:List Kl.Cl)(Sn:Hp)=>s.xs.length-i) 0 _ _ ⟨by omega,.zero mH,qG⟩ aH aH aP ?_
  rintro i l Sn ⟨hi,hl,nT⟩
  have o9:=nT.uF
  have mE:=nT.sl
  rw[o9] at mE
  refine ah fun _ ck=>?_;refine cR fun _ cQ=>?_;refine oM (oM ?_);refine oS sN ?_;refine oS sF ?_;refine oS (az rfl (.own aV hb)) ?_;refine oM ?_;refine oS (au rfl rfl gu (by omega)) ?_;refine oS (az rfl ((hO.aU aM).ld n 0 hs rfl (by decide) (by omega))) ?_;refine oS sC ?_;refine oS (aF rfl rfl) ?_;refine oZ cQ ?_;refine cx rfl (fun pQ=>?_) (fun pQ=>?_)
  ·refine ax (xZ ck (ah fun _ bw=>?_));refine ai ?_;refine aK ((b,.cells cs.toArray 63 (0,0))::So) (fun i=>false) ?_;refine eK 0 rfl sM ?_;refine eK 1 rfl sN ?_;refine eK 2 rfl sF ?_;refine eK 3 rfl (az rfl (.own aV hb)) ?_;refine eK 4 rfl sM ?_;refine eK 5 rfl (au rfl rfl gu (by omega)) ?_;refine eK 6 rfl (az rfl ((hO.aU aM).ld n 0 hs rfl (by decide) (by omega))) ?_;refine eK 7 rfl sM ?_;refine eK 8 rfl sM ?_;refine eK 9 rfl sM (eO 10 rfl ?_);refine ar (bC n i (by omega) (by omega)) rfl rfl rfl (fun _ _=>trivial) (fun v45 yU=>?_);subst yU
   refine oX ?_;refine eK 11 rfl (ab (v':=.int .u64 ((1048576*n+i+1:Nat):Int)) (cV rfl) (congrArg _ (cK (by omega)))) ?_;refine eK 12 rfl (ab (v':=.agg (Ec (iM n i)).toArray) (dz (cs:=[_,_,_,_]) (vs:=[_,_]) rfl rfl (.cons rfl rfl rfl rfl (.cons rfl rfl rfl rfl .nil))) (by rw[kr (by omega) (by omega)])) ?_;refine eK 13 rfl (au rfl rfl mE (by omega)) ?_;refine eO 14 rfl ?_;refine lX i (iM n i) nT bh rfl rfl (by omega) (by rw[Int.toNat_natCast];rfl) fun S' wH=>?_;refine oX ?_;refine cw (by kernel_rfl) ?_;refine aq (xZ bw (ae (oM ?_)));refine oS sD (oA (ak ?_));exact xI (i+1,_,S') ⟨by omega,hl.step (by omega) rfl,wH⟩
  ·refine ay ?_;refine ad (ad (ag (aq (xZ bZ (ae (oM ?_))))));refine oS sD (oA (ak ?_));exact xI (n+1,dO.set n l,S1++(Sn++S2)) ⟨by omega,q8 _ _ nT,tp hA hs (pR hl (by omega)) hx⟩
 ·have hF:ov Ec 4 39 iM 0 (sls.drop 0) Si:=hI.all (n:=0) (fun j s hs=>by rw[Nat.zero_add];exact hA j s (by have:=(List.getElem?_eq_some_iff.1 hs).1;omega) hs)
  refine ay ?_;refine ad (ad (ag (xZ bJ (cR fun _ bF=>?_))));refine oA (oA (oZ bF (ah fun _ bD=>?_)));refine cR fun _ cb=>?_;refine oA (oZ cb (ai ?_));refine lL (fun (n:Nat)(q1:Sl (Sl Kl.Cl))(q2:Sl (Sl Kl.Cl))(P1:Hp)(P2:Hp)(G:Hp)(R:Hp)=>n≤sls.length∧q1.xs.length=n∧q2.xs.length=n∧aG cX 1 26 (.slice q1.a q1.xs.length q1.c) q1.xs P1∧aG cX 1 26 (.slice q2.a q2.xs.length q2.c) q2.xs P2∧ov Ec 4 39 iM n (sls.drop n) R∧yV Ec iM sls q1.xs q2.xs G n) (fun (n:Nat)(q1:Sl (Sl Kl.Cl))(q2:Sl (Sl Kl.Cl))(P1:Hp)(P2:Hp)(G:Hp)(R:Hp)=>[(7,.int .i64 n),(5,.slice q1.a q1.xs.length q1.c),(6,.slice q2.a q2.xs.length q2.c)]) [(0,_),(2,_)] (fun (n:Nat)(q1:Sl (Sl Kl.Cl))(q2:Sl (Sl Kl.Cl))(P1:Hp)(P2:Hp)(G:Hp)(R:Hp)=>(b,.cells cs.toArray 63 (0,0))::(So++(P1++(P2++(G++R))))) (fun (n:Nat)(q1:Sl (Sl Kl.Cl))(q2:Sl (Sl Kl.Cl))(P1:Hp)(P2:Hp)(G:Hp)(R:Hp)=>sls.length-n) 0 ⟨none,0,[]⟩ ⟨none,0,[]⟩ [] [] [] _ ⟨by omega,rfl,rfl,.nil,.nil,hF,.zero⟩ aH aH aP ?_
  rintro n q1 q2 P1 P2 G R ⟨hn,Jy,MX,tr,ka,hR,hD⟩
  refine ah fun _ bL=>?_;refine cR fun _ bQ=>?_;refine oM (oM ?_);refine oS sN ?_;refine oS sF ?_;refine oS (az rfl (.own aV hb)) ?_;refine oS sC ?_;refine oS (aF rfl rfl) ?_;refine oZ bQ ?_;refine cx rfl (fun cH=>?_) (fun cH=>?_)
  ·obtain⟨s,hs⟩:=kx (sls:=sls) (n:=n) (by omega)
   have jr:=hlen n s hs
   obtain⟨Sa,R2,rfl,GM,EP⟩:=hR.head hs
   have CQ:(Value.slice s.a (j9 iM n s.xs.length).length s.c)=s.v:=by rw[db];rfl
   have pS:=GM.sl
   rw[db] at pS
   refine ax (xZ bL (ah fun _ cO=>?_));refine ai (cR fun _ df=>?_);refine oM ?_;refine oS sN ?_;refine oS sF ?_;refine oS (az rfl (.own aV hb)) ?_;refine oM ?_;refine oS (au rfl rfl gu (by omega)) ?_;refine oS (az rfl ((hO.aU aM).ld n 0 hs rfl (by decide) (by omega))) ?_;refine oA (oZ df (ah fun _ cZ=>?_));refine cR fun _ dq=>?_;refine oM ?_;refine oS sC (oA (oZ dq (ai ?_)));refine lV (fun (i:Nat)(l:List Kl.Cl)(la:Option Addr)(lc:Nat)(q3:Sl (Sl Kl.Cl))(P3:Hp)(Sk:Hp)(Gk:Hp)=>s.xs.length≤i∧i≤s.xs.length+70∧l=j9 iM n i∧gq Ec 4 39 s.v (j9 iM n s.xs.length) (.slice la l.length lc) l Sk Gk∧aG cX 1 26 (.slice q3.a q3.xs.length q3.c) q3.xs P3∧((i=s.xs.length∧q3.xs=q1.xs)∨(s.xs.length<i∧∃ o,q3.xs=q1.xs++[o]∧o.xs=j9 iM n (s.xs.length+1)∧eA o.v o.xs.length∧gq Ec 4 39 o.v o.xs (.slice la l.length lc) l Sk Gk))) (fun (i:Nat)(l:List Kl.Cl)(la:Option Addr)(lc:Nat)(q3:Sl (Sl Kl.Cl))(P3:Hp)(Sk:Hp)(Gk:Hp)=>[(9,.int .i64 i),(8,.slice la l.length lc),(5,.slice q3.a q3.xs.length q3.c)]) [(0,_),(2,_),(6,_),(7,_),(49,_),(50,_),(51,_),(52,_),(53,_),(54,_),(55,_),(58,_),(59,_),(60,_),(61,_),(62,_),(63,_),(64,_),(65,_),(66,_)] (fun (i:Nat)(l:List Kl.Cl)(la:Option Addr)(lc:Nat)(q3:Sl (Sl Kl.Cl))(P3:Hp)(Sk:Hp)(Gk:Hp)=>(b,.cells cs.toArray 63 (0,0))::(So++(P3++(P2++(Sk++(Gk++(G++R2))))))) (fun (i:Nat)(l:List Kl.Cl)(la:Option Addr)(lc:Nat)(q3:Sl (Sl Kl.Cl))(P3:Hp)(Sk:Hp)(Gk:Hp)=>s.xs.length+70-i) s.xs.length (j9 iM n s.xs.length) s.a s.c q1 P1 Sa [] ⟨by omega,by omega,rfl,by rw[CQ];exact gq.start GM,tr,.inl ⟨rfl,rfl⟩⟩ (by exact Sub.cons rfl (Sub.fY rfl (by rw[db];rfl) (Sub.cons rfl .nil))) aH aP ?_
   rintro i l la lc q3 P3 Sk Gk ⟨N0,Ie,hl,hK,yW,hc⟩
   have o9:l.length=i:=by rw[hl,db]
   refine ah fun _ dG=>?_;refine cR fun _ eb=>?_;refine oM (oM ?_);refine oS sN ?_;refine oS sF ?_;refine oS (az rfl (.own aV hb)) ?_;refine oM ?_;refine oS (au rfl rfl gu (by omega)) ?_;refine oS (az rfl ((hO.aU aM).ld n 0 hs rfl (by decide) (by omega))) ?_;refine oS sC ?_;refine oS sD ?_;refine oS (aF rfl rfl) ?_;refine oZ eb ?_;refine cx rfl (fun pQ=>?_) (fun pQ=>?_)
   ·refine ax (xZ dG (ah fun _ dL=>?_));refine ai (cR fun _ dR=>?_);refine oM (oM (oM ?_));refine ar (bC n i (by omega) (by omega)) rfl rfl rfl (fun _ _=>trivial) (fun v83 SK=>?_);subst SK
    refine oS (ab (v':=.int .u64 ((1048576*n+i+1:Nat):Int)) (cV rfl) (congrArg _ (cK (by omega)))) ?_;refine oS (ab (v':=.agg (Ec (iM n i)).toArray) (dz (cs:=[_,_,_,_]) (vs:=[_,_]) rfl rfl (.cons rfl rfl rfl rfl (.cons rfl rfl rfl rfl .nil))) (by rw[kr (by omega) (by omega)])) ?_;refine ct (E:=Ec) (xs:=[iM n i]) (vs:=[_]) rfl rfl rfl rfl rfl (by decide) (by decide) fun SM S86 JA=>?_;refine uH hK.own (JA.aU aM) rfl rfl rfl rfl (by simp only[List.length_singleton];omega) (by simp only[List.length_singleton];omega) rfl bh fun Xr Xs S87 G87 JB SO=>?_;refine oA (oZ dR (cR fun _ dk=>?_));refine oM (oM ?_);refine oS sN ?_;refine oS sF ?_;refine oS (az rfl (.own aV hb)) ?_;refine oM ?_;refine oS (au rfl rfl gu (by omega)) ?_;refine oS (az rfl ((hO.aU aM).ld n 0 hs rfl (by decide) (by omega))) ?_;refine oS sC ?_
    by_cases tv:i=s.xs.length
    ·have lW:=(hc.resolve_right (fun h=>absurd h.1 (by omega))).2
     have N1:=congrArg List.length lW
     refine oS ij (oZ dk ?_);refine cT (ae (oM (oM ?_)));refine ct (E:=cX) (xs:=[⟨Xr,Xs,l++[iM n i]⟩]) (vs:=[_]) rfl rfl rfl rfl rfl (by decide) (by decide) fun Xt Xu AG=>?_;refine bX yW (AG.aU aM) rfl rfl rfl rfl (by simp only[List.length_singleton];omega) (by simp only[List.length_singleton];omega) rfl bh fun JC JD JE AH=>?_;refine oA (ak (aq (xZ dL (ae (oM ?_)))));refine oS sD (oA (ak ?_));exact av (cd (i+1,l++[iM n i],Xr,Xs,⟨JC,JD,q3.xs++[⟨Xr,Xs,l++[iM n i]⟩]⟩,JE,S87,G87++Gk) ⟨by omega,by omega,by rw[hl];exact fm,hK.app JB SO,AH,.inr ⟨by omega,⟨Xr,Xs,l++[iM n i]⟩,by rw[lW],by show l++_=_;rw[hl,fm,tv],JB.sl,(gq.start JB).more (fun _ h=>by cases h)⟩⟩ (by first|omega|(dsimp only;omega)) aH (by simp only[List.append_assoc];exact aP))
    ·obtain⟨rb,o,lW,ho,qL,yX⟩:=hc.resolve_left (fun h=>tv h.1)
     refine oS ik (oZ dk ?_);refine cF (ax (aq (xZ dL (ae (oM ?_)))));refine oS sD (oA (ak ?_));exact av (cd (i+1,l++[iM n i],Xr,Xs,q3,P3,S87,G87++Gk) ⟨by omega,by omega,by rw[hl];exact fm,hK.app JB SO,yW,.inr ⟨by omega,o,lW,ho,qL,yX.app JB SO⟩⟩ (by first|omega|(dsimp only;omega)) aH (by simp only[List.append_assoc];exact aP))
   ·refine ay ?_;refine ad (ad (ag (xZ cZ (ae (oM (oM ?_))))));refine ct (E:=cX) (xs:=[⟨la,lc,l⟩]) (vs:=[_]) rfl rfl rfl rfl rfl (by decide) (by decide) fun ami amj Xv=>?_;refine bX ka (Xv.aU aM) rfl rfl rfl rfl (by simp only[List.length_singleton];omega) (by simp only[List.length_singleton];omega) rfl bh fun adH adI Xw Xx=>?_;refine oA (ak (aq (xZ cO (ae (oM ?_)))));refine oS sD (oA (ak ?_))
    obtain⟨rb,o,lW,ho,qL,yX⟩:=hc.resolve_left (fun h=>absurd h.1 (by omega))
    exact av (cd (n+1,q3,⟨adH,adI,q2.xs++[⟨la,lc,l⟩]⟩,P3,Xw,Sk++(Gk++G),R2) ⟨by omega,by rw[lW];simp;omega,by simp;omega,yW,Xx,EP,by rw[lW,← List.append_assoc];exact hD.step Jy MX hs ho (by show l=_;rw[hl];congr 1;omega) pS qL hK.own.sl hK.rds yX.rds (hK.own.rds.mono c4.ga)⟩ (by first|omega|(dsimp only;omega)) aH (by simp only[List.append_assoc];exact aP))
  ·obtain rfl:n=sls.length:=by omega
   have pT:=tr.sl
   have fP:=ka.sl
   refine ay ?_;refine ad (ad (ag (xZ bD (ah fun _ dE=>?_))));refine cR fun _ dS=>?_;refine oA (oZ dS (ai ?_))
   refine aL (fun (j:Nat)=>j≤sls.length) (fun (j:Nat)=>[(10,.int .i64 j)]) [(0,_),(5,_),(6,_)] (fun (j:Nat)=>(b,.cells cs.toArray 63 (0,0))::(So++(P1++(P2++(G++R))))) (fun (j:Nat)=>sls.length-j) 0 (by omega) aH aH aP ?_
   rintro j hj
   refine ah fun _ dW=>?_;refine cR fun _ ee=>?_;refine oM (oM ?_);refine oS sC ?_;refine oS (aF rfl rfl) ?_;refine oZ ee ?_;refine cx rfl (fun cH=>?_) (fun cH=>?_)
   ·obtain⟨s,o,m,hs,ho,hm,CT,kF,N2,io,im,rs,ro,rm⟩:=hD.out j (by omega)
    have ot:m.xs.length=s.xs.length+70:=by rw[kF,db]
    have Xo:o.xs.length=s.xs.length+1:=by rw[CT,db]
    have jr:=hlen j s hs
    refine ax (xZ dW (ah fun _ eh=>?_));refine ai (cR fun _ eD=>?_);refine oA (oZ eD (ai ?_));refine aL (fun (i:Nat)=>i≤s.xs.length+70) (fun (i:Nat)=>[(11,.int .i64 i)]) [(0,_),(5,_),(6,_),(10,_),(106,_),(107,_),(108,_),(109,_)] (fun (i:Nat)=>(b,.cells cs.toArray 63 (0,0))::(So++(P1++(P2++(G++R))))) (fun (i:Nat)=>s.xs.length+70-i) 0 (by omega) aH aH aP ?_
    rintro i hi
    refine ah fun _ dN=>?_;refine cR fun _ e6=>?_;refine oM (oM (oM ?_));refine oS (au rfl rfl fP (by omega)) ?_;refine oS (az rfl ((ka.aU aM).ld j 0 hm rfl (by decide) (by omega))) ?_;refine oS sC ?_;refine oS (aF rfl rfl) ?_;refine oZ e6 ?_;refine cx rfl (fun pQ=>?_) (fun pQ=>?_)
    ·refine ax (xZ dN (ah fun _ du=>?_));refine ai (cR fun _ fF=>?_);refine oM (oM ?_);refine oS (au rfl rfl fP (by omega)) ?_;refine oS (az rfl ((ka.aU aM).ld j 0 hm rfl (by decide) (by omega))) ?_;refine oM ?_;refine oS (au rfl rfl im (by omega)) ?_;refine oS (aD rfl ((rm.aU aM).gx i (by rw[kF];exact cA (by omega)) rfl) rfl) ?_;refine aB rfl rfl fun kb=>?_;refine bf rfl rfl bY (by rfl) (by rfl) (eB.one _) ?_;refine oZ fF (ah fun _ fx=>?_);refine cR fun _ fN=>?_;refine oM (oM ?_);refine oS sN ?_;refine oS sF ?_;refine oS (az rfl (.own aV hb)) ?_;refine oM ?_;refine oS (au rfl rfl gu (by omega)) ?_;refine oS (az rfl ((hO.aU aM).ld j 0 hs rfl (by decide) (by omega))) ?_;refine oS sC ?_
     by_cases ER:i<s.xs.length
     ·refine oS wg (oZ fN ?_);refine cT (ae (oM ?_));refine oS sN ?_;refine oS sF ?_;refine oS (az rfl (.own aV hb)) ?_;refine oM ?_;refine oS (au rfl rfl gu (by omega)) ?_;refine oS (az rfl ((hO.aU aM).ld j 0 hs rfl (by decide) (by omega))) ?_;refine oM ?_;refine oS (au rfl rfl N2 (by omega)) ?_;refine oS (aD rfl ((rs.aU aM).gx i (cA (by omega)) rfl) rfl) ?_;refine bf rfl rfl bY (by rfl) (by rfl) (eB.one _) ?_;refine oZ fx (ah fun _ gh=>?_);refine cR fun _ fZ=>?_;refine oM (oM ?_);refine oS sN ?_;refine oS sF ?_;refine oS (az rfl (.own aV hb)) ?_;refine oM ?_;refine oS (au rfl rfl gu (by omega)) ?_;refine oS (az rfl ((hO.aU aM).ld j 0 hs rfl (by decide) (by omega))) ?_;refine oS sC ?_
      by_cases tv:i=s.xs.length
      ·refine oS ij (oZ fZ ?_);refine cT (ae (oM (oM ?_)));refine oS (au rfl rfl pT (by omega)) ?_;refine oS (az rfl ((tr.aU aM).ld j 0 ho rfl (by decide) (by omega))) ?_;refine oM ?_;refine oS (au rfl rfl io (by omega)) ?_;refine oS (aD rfl ((ro.aU aM).gx i (by rw[CT];exact cA (by omega)) rfl) rfl) ?_;refine bf rfl rfl bY (by rfl) (by rfl) (eB.one _) ?_;refine oZ gh (ah fun _ iW=>?_);refine aK ([(kb,.cells (Ec (iM j i)).toArray 39 (0,0))]) (fun i=>false) ?_;refine eK 0 rfl (aD rfl (aI.aO (.own aV)) aS) ?_;refine eK 1 rfl sM ?_;refine eK 2 rfl sM (eO 3 rfl ?_);refine ar (bC j i (by omega) (by omega)) rfl rfl rfl (fun _ _=>trivial) (fun CW jC=>?_);subst jC
       refine oX ?_;refine eK 4 rfl (ab (v':=.int .u64 ((1048576*j+i+1:Nat):Int)) (cV rfl) (congrArg _ (cK (by omega)))) ?_;refine eK 5 rfl (ab (v':=.agg (Ec (iM j i)).toArray) (dz (cs:=[_,_,_,_]) (vs:=[_,_]) rfl rfl (.cons rfl rfl rfl rfl (.cons rfl rfl rfl rfl .nil))) (by rw[kr (by omega) (by omega)])) ?_;refine eK 6 rfl (ab (v':=.bool true) (fq (c:=iM j i) (d:=iM j i) rfl rfl) (congrArg Value.bool (decide_eq_true rfl))) ?_;refine eO 7 rfl (oA (oX (eZ iW (cR fun _ gA=>?_))));refine oM (oM ?_);refine oS (au rfl rfl fP (by omega)) ?_;refine oS (az rfl ((ka.aU aM).ld j 0 hm rfl (by decide) (by omega))) ?_;refine oM ?_;refine oS (au rfl rfl im (by omega)) ?_;refine oS (aD rfl ((rm.aU aM).gx i (by rw[kF];exact cA (by omega)) rfl) rfl) ?_;refine bf rfl rfl bY (by rfl) (by rfl) (eB.one _) ?_;refine oZ gA (ah fun _ iX=>?_);refine aK ([(kb,.cells (Ec (iM j i)).toArray 39 (0,0))]) (fun i=>false) ?_;refine eK 0 rfl sM ?_;refine eK 1 rfl (aT rfl) ?_;refine eK 2 rfl sM ?_;refine eG 3 rfl (aD rfl (aI.aO (.own aV)) aS) ?_;refine eG 4 rfl sM ?_;refine eG 5 rfl sM (eO 6 rfl ?_);refine oY ?_;refine ar (bC j i (by omega) (by omega)) rfl rfl rfl (fun _ _=>trivial) (fun SR uN=>?_)
       subst uN;refine oX ?_;refine eG 7 rfl (ab (v':=.int .u64 ((1048576*j+i+1:Nat):Int)) (cV rfl) (congrArg _ (cK (by omega)))) ?_;refine eG 8 rfl (ab (v':=.agg (Ec (iM j i)).toArray) (dz (cs:=[_,_,_,_]) (vs:=[_,_]) rfl rfl (.cons rfl rfl rfl rfl (.cons rfl rfl rfl rfl .nil))) (by rw[kr (by omega) (by omega)])) ?_;refine eG 9 rfl (ab (v':=.bool true) (fq (c:=iM j i) (d:=iM j i) rfl rfl) (congrArg Value.bool (decide_eq_true rfl))) ?_;refine eG 10 rfl (aT rfl) ?_;refine eK 11 rfl sP (eZ iX ?_);refine cF (ax (aq (xZ du (ae (oM ?_)))));refine oS sD (oA (ak ?_));exact xI (i+1) (by omega)
      ·refine oS ik (oZ fZ ?_);refine eL gh (ah fun _ jW=>?_);refine aK ([(kb,.cells (Ec (iM j i)).toArray 39 (0,0))]) (fun i=>false) ?_;refine eK 0 rfl (aD rfl (aI.aO (.own aV)) aS) ?_;refine eK 1 rfl sM ?_;refine eK 2 rfl sM (eO 3 rfl ?_);refine ar (bC j i (by omega) (by omega)) rfl rfl rfl (fun _ _=>trivial) (fun CW jC=>?_);subst jC
       refine oX ?_;refine eK 4 rfl (ab (v':=.int .u64 ((1048576*j+i+1:Nat):Int)) (cV rfl) (congrArg _ (cK (by omega)))) ?_;refine eK 5 rfl (ab (v':=.agg (Ec (iM j i)).toArray) (dz (cs:=[_,_,_,_]) (vs:=[_,_]) rfl rfl (.cons rfl rfl rfl rfl (.cons rfl rfl rfl rfl .nil))) (by rw[kr (by omega) (by omega)])) ?_;refine eK 6 rfl (ab (v':=.bool true) (fq (c:=iM j i) (d:=iM j i) rfl rfl) (congrArg Value.bool (decide_eq_true rfl))) ?_;refine eO 7 rfl (oA (oX (eZ jW (cR fun _ kT=>?_))));refine oM (oM ?_);refine oS (au rfl rfl fP (by omega)) ?_;refine oS (az rfl ((ka.aU aM).ld j 0 hm rfl (by decide) (by omega))) ?_;refine oM ?_;refine oS (au rfl rfl im (by omega)) ?_;refine oS (aD rfl ((rm.aU aM).gx i (by rw[kF];exact cA (by omega)) rfl) rfl) ?_;refine bf rfl rfl bY (by rfl) (by rfl) (eB.one _) ?_;refine oZ kT (ah fun _ nL=>?_);refine aK ([(kb,.cells (Ec (iM j i)).toArray 39 (0,0))]) (fun i=>false) ?_;refine eK 0 rfl sM ?_;refine eK 1 rfl (aT rfl) ?_;refine eK 2 rfl sM ?_;refine eG 3 rfl (aD rfl (aI.aO (.own aV)) aS) ?_;refine eG 4 rfl sM ?_;refine eG 5 rfl sM (eO 6 rfl ?_);refine oY ?_;refine ar (bC j i (by omega) (by omega)) rfl rfl rfl (fun _ _=>trivial) (fun SR uN=>?_)
       subst uN;refine oX ?_;refine eG 7 rfl (ab (v':=.int .u64 ((1048576*j+i+1:Nat):Int)) (cV rfl) (congrArg _ (cK (by omega)))) ?_;refine eG 8 rfl (ab (v':=.agg (Ec (iM j i)).toArray) (dz (cs:=[_,_,_,_]) (vs:=[_,_]) rfl rfl (.cons rfl rfl rfl rfl (.cons rfl rfl rfl rfl .nil))) (by rw[kr (by omega) (by omega)])) ?_;refine eG 9 rfl (ab (v':=.bool true) (fq (c:=iM j i) (d:=iM j i) rfl rfl) (congrArg Value.bool (decide_eq_true rfl))) ?_;refine eG 10 rfl (aT rfl) ?_;refine eK 11 rfl sP (eZ nL ?_);refine cF (ax (aq (xZ du (ae (oM ?_)))));refine oS sD (oA (ak ?_));exact xI (i+1) (by omega)
     ·refine oS wh (oZ fN ?_);refine eL fx (ah fun _ kU=>?_);refine cR fun _ kV=>?_;refine oM (oM ?_);refine oS sN ?_;refine oS sF ?_;refine oS (az rfl (.own aV hb)) ?_;refine oM ?_;refine oS (au rfl rfl gu (by omega)) ?_;refine oS (az rfl ((hO.aU aM).ld j 0 hs rfl (by decide) (by omega))) ?_;refine oS sC ?_
      by_cases tv:i=s.xs.length
      ·refine oS ij (oZ kV ?_);refine cT (ae (oM (oM ?_)));refine oS (au rfl rfl pT (by omega)) ?_;refine oS (az rfl ((tr.aU aM).ld j 0 ho rfl (by decide) (by omega))) ?_;refine oM ?_;refine oS (au rfl rfl io (by omega)) ?_;refine oS (aD rfl ((ro.aU aM).gx i (by rw[CT];exact cA (by omega)) rfl) rfl) ?_;refine bf rfl rfl bY (by rfl) (by rfl) (eB.one _) ?_;refine oZ kU (ah fun _ ou=>?_);refine aK ([(kb,.cells (Ec (iM j i)).toArray 39 (0,0))]) (fun i=>false) ?_;refine eK 0 rfl (aD rfl (aI.aO (.own aV)) aS) ?_;refine eK 1 rfl sM ?_;refine eK 2 rfl sM (eO 3 rfl ?_);refine ar (bC j i (by omega) (by omega)) rfl rfl rfl (fun _ _=>trivial) (fun CW jC=>?_);subst jC
       refine oX ?_;refine eK 4 rfl (ab (v':=.int .u64 ((1048576*j+i+1:Nat):Int)) (cV rfl) (congrArg _ (cK (by omega)))) ?_;refine eK 5 rfl (ab (v':=.agg (Ec (iM j i)).toArray) (dz (cs:=[_,_,_,_]) (vs:=[_,_]) rfl rfl (.cons rfl rfl rfl rfl (.cons rfl rfl rfl rfl .nil))) (by rw[kr (by omega) (by omega)])) ?_;refine eK 6 rfl (ab (v':=.bool true) (fq (c:=iM j i) (d:=iM j i) rfl rfl) (congrArg Value.bool (decide_eq_true rfl))) ?_;refine eO 7 rfl (oA (oX (eZ ou (cR fun _ rh=>?_))));refine oM (oM ?_);refine oS (au rfl rfl fP (by omega)) ?_;refine oS (az rfl ((ka.aU aM).ld j 0 hm rfl (by decide) (by omega))) ?_;refine oM ?_;refine oS (au rfl rfl im (by omega)) ?_;refine oS (aD rfl ((rm.aU aM).gx i (by rw[kF];exact cA (by omega)) rfl) rfl) ?_;refine bf rfl rfl bY (by rfl) (by rfl) (eB.one _) ?_;refine oZ rh (ah fun _ uK=>?_);refine aK ([(kb,.cells (Ec (iM j i)).toArray 39 (0,0))]) (fun i=>false) ?_;refine eK 0 rfl sM ?_;refine eK 1 rfl (aT rfl) ?_;refine eK 2 rfl sM ?_;refine eG 3 rfl (aD rfl (aI.aO (.own aV)) aS) ?_;refine eG 4 rfl sM ?_;refine eG 5 rfl sM (eO 6 rfl ?_);refine oY ?_;refine ar (bC j i (by omega) (by omega)) rfl rfl rfl (fun _ _=>trivial) (fun SR uN=>?_)
       subst uN;refine oX ?_;refine eG 7 rfl (ab (v':=.int .u64 ((1048576*j+i+1:Nat):Int)) (cV rfl) (congrArg _ (cK (by omega)))) ?_;refine eG 8 rfl (ab (v':=.agg (Ec (iM j i)).toArray) (dz (cs:=[_,_,_,_]) (vs:=[_,_]) rfl rfl (.cons rfl rfl rfl rfl (.cons rfl rfl rfl rfl .nil))) (by rw[kr (by omega) (by omega)])) ?_;refine eG 9 rfl (ab (v':=.bool true) (fq (c:=iM j i) (d:=iM j i) rfl rfl) (congrArg Value.bool (decide_eq_true rfl))) ?_;refine eG 10 rfl (aT rfl) ?_;refine eK 11 rfl sP (eZ uK ?_);refine cF (ax (aq (xZ du (ae (oM ?_)))));refine oS sD (oA (ak ?_));exact xI (i+1) (by omega)
      ·refine oS ik (oZ kV ?_);refine eL kU (ah fun _ yY=>?_);refine aK ([(kb,.cells (Ec (iM j i)).toArray 39 (0,0))]) (fun i=>false) ?_;refine eK 0 rfl (aD rfl (aI.aO (.own aV)) aS) ?_;refine eK 1 rfl sM ?_;refine eK 2 rfl sM (eO 3 rfl ?_);refine ar (bC j i (by omega) (by omega)) rfl rfl rfl (fun _ _=>trivial) (fun CW jC=>?_);subst jC
       refine oX ?_;refine eK 4 rfl (ab (v':=.int .u64 ((1048576*j+i+1:Nat):Int)) (cV rfl) (congrArg _ (cK (by omega)))) ?_;refine eK 5 rfl (ab (v':=.agg (Ec (iM j i)).toArray) (dz (cs:=[_,_,_,_]) (vs:=[_,_]) rfl rfl (.cons rfl rfl rfl rfl (.cons rfl rfl rfl rfl .nil))) (by rw[kr (by omega) (by omega)])) ?_;refine eK 6 rfl (ab (v':=.bool true) (fq (c:=iM j i) (d:=iM j i) rfl rfl) (congrArg Value.bool (decide_eq_true rfl))) ?_;refine eO 7 rfl (oA (oX (eZ yY (cR fun _ yZ=>?_))));refine oM (oM ?_);refine oS (au rfl rfl fP (by omega)) ?_;refine oS (az rfl ((ka.aU aM).ld j 0 hm rfl (by decide) (by omega))) ?_;refine oM ?_;refine oS (au rfl rfl im (by omega)) ?_;refine oS (aD rfl ((rm.aU aM).gx i (by rw[kF];exact cA (by omega)) rfl) rfl) ?_;refine bf rfl rfl bY (by rfl) (by rfl) (eB.one _) ?_;refine oZ yZ (ah fun _ y6=>?_);refine aK ([(kb,.cells (Ec (iM j i)).toArray 39 (0,0))]) (fun i=>false) ?_;refine eK 0 rfl sM ?_;refine eK 1 rfl (aT rfl) ?_;refine eK 2 rfl sM ?_;refine eG 3 rfl (aD rfl (aI.aO (.own aV)) aS) ?_;refine eG 4 rfl sM ?_;refine eG 5 rfl sM (eO 6 rfl ?_);refine oY ?_;refine ar (bC j i (by omega) (by omega)) rfl rfl rfl (fun _ _=>trivial) (fun SR uN=>?_)
       subst uN;refine oX ?_;refine eG 7 rfl (ab (v':=.int .u64 ((1048576*j+i+1:Nat):Int)) (cV rfl) (congrArg _ (cK (by omega)))) ?_;refine eG 8 rfl (ab (v':=.agg (Ec (iM j i)).toArray) (dz (cs:=[_,_,_,_]) (vs:=[_,_]) rfl rfl (.cons rfl rfl rfl rfl (.cons rfl rfl rfl rfl .nil))) (by rw[kr (by omega) (by omega)])) ?_;refine eG 9 rfl (ab (v':=.bool true) (fq (c:=iM j i) (d:=iM j i) rfl rfl) (congrArg Value.bool (decide_eq_true rfl))) ?_;refine eG 10 rfl (aT rfl) ?_;refine eK 11 rfl sP (eZ y6 ?_);refine cF (ax (aq (xZ du (ae (oM ?_)))));refine oS sD (oA (ak ?_));exact xI (i+1) (by omega)
    ·refine ay ?_;refine ad (ad (ag (aq (xZ eh (ae (oM ?_))))));refine oS sD (oA (ak ?_));exact xI (j+1) (by omega)
   ·refine ay ?_;refine ad (ad (ag (xZ dE (cR fun _ y7=>?_))));refine oA (oZ y7 (aA ?_));refine ?_;refine cM (Sub.refl _) (H':=(b,.cells cs.toArray 63 (0,0))::So) aP ?_;exact xR rfl rfl (⟨rfl,rfl⟩)
set_option maxHeartbeats 1000000 in
theorem wx (b:Nat)(cs:List Value)(sls:List (Sl Nd))(oa:Option Addr)(oc:Nat)(So Si:Hp)(hb:cs[8]?=some (.slice oa sls.length oc))(hN:sls.length≤400)(hlen:∀ (j:Nat)(s:Sl Nd),sls[j]?=some s→s.xs.length≤4294967296)(hO:aG cX 1 22 (.slice oa sls.length oc) sls So)(yT:List (List Nd))(hI:cG En 9 42 sls yT Si):HL.Fn Tryz.prog 58 [.pointer (some ⟨b,0,none⟩)] (fun _=>True) ((b,.cells cs.toArray 63 (0,0))::(So++Si)) (fun v S'=>v = .bool true∧S'=(b,.cells cs.toArray 63 (0,0))::So):=by
 refine aW Tryz.func58 rfl rfl rfl fun w0 hw=>?_
 have gu:=hO.sl
 refine cR fun _ bI=>?_;refine oA (oZ bI (ah fun _ bJ=>?_));refine cR fun _ bK=>?_;refine oA (oZ bK (ai ?_));refine dt (fun (n:Nat)(dO:List (List Nd))(Si:Hp)=>n≤sls.length∧cG En 9 42 sls dO Si∧∀ j s,j<n→sls[j]?=some s→dO[j]?=some (j9 iS j s.xs.length)) (fun (n:Nat)(dO:List (List Nd))(Si:Hp)=>[(3,.int .i64 n)]) [(0,_),(2,_)] (fun (n:Nat)(dO:List (List Nd))(Si:Hp)=>(b,.cells cs.toArray 63 (0,0))::(So++Si)) (fun (n:Nat)(dO:List (List Nd))(Si:Hp)=>sls.length-n) 0 _ _ ⟨by omega,hI,fun j s hj=>by omega⟩ aH aH aP ?_
 rintro n dO Si ⟨hn,hI,hA⟩
 refine ah fun _ bU=>?_;refine cR fun _ bT=>?_;refine oM (oM ?_);refine oS sN ?_;refine oS sF ?_;refine oS (az rfl (.own aV hb)) ?_;refine oS sC ?_;refine oS (aF rfl rfl) ?_;refine oZ bT ?_;refine cx rfl (fun cH=>?_) (fun cH=>?_)
 ·obtain⟨s,hs⟩:=kx (sls:=sls) (n:=n) (by omega)
  obtain⟨xs,S1,Xi,S2,hx,rfl,qG,q8⟩:=hI.at hs
  have mH:=qG.uF
  have jr:=hlen n s hs
  refine ax (xZ bU (ah fun _ bZ=>?_));refine ai (cR fun _ cj=>?_);refine oA (oZ cj (ai ?_));refine dt (fun (i:Nat)(l:List Nd)(Sn:Hp)=>i≤s.xs.length∧Af.pJ (iS n) s.xs.length i l∧aG En 9 42 s.v l Sn) (fun (i:Nat)(l:List Nd)(Sn:Hp)=>[(4,.int .i64 i)]) [(0,_),(2,_),(3,_),(14,_),(15,_),(16,_),(17,_),(18,_),(19,_),(20,_)] (fun (i:Nat)(l:List Nd)(Sn:Hp)=>(b,.cells cs.toArray 63 (0,0))::(So++(S1++(Sn++S2)))) (fun (i:Nat)(l:List Nd)(Sn:Hp)=>s.xs.length-i) 0 _ _ ⟨by omega,.zero mH,qG⟩ aH aH aP ?_
  rintro i l Sn ⟨hi,hl,nT⟩
  have o9:=nT.uF
  have mE:=nT.sl
  rw[o9] at mE
  refine ah fun _ ck=>?_;refine cR fun _ cQ=>?_;refine oM (oM ?_);refine oS sN ?_;refine oS sF ?_;refine oS (az rfl (.own aV hb)) ?_;refine oM ?_;refine oS (au rfl rfl gu (by omega)) ?_;refine oS (az rfl ((hO.aU aM).ld n 0 hs rfl (by decide) (by omega))) ?_;refine oS sC ?_;refine oS (aF rfl rfl) ?_;refine oZ cQ ?_;refine cx rfl (fun pQ=>?_) (fun pQ=>?_)
  ·refine ax (xZ ck (ah fun _ bw=>?_));refine ai ?_;refine aK ((b,.cells cs.toArray 63 (0,0))::So) (fun i=>false) ?_;refine eK 0 rfl sM ?_;refine eK 1 rfl sN ?_;refine eK 2 rfl sF ?_;refine eK 3 rfl (az rfl (.own aV hb)) ?_;refine eK 4 rfl sM ?_;refine eK 5 rfl (au rfl rfl gu (by omega)) ?_;refine eK 6 rfl (az rfl ((hO.aU aM).ld n 0 hs rfl (by decide) (by omega))) ?_;refine eK 7 rfl sM ?_;refine eK 8 rfl sM ?_;refine eK 9 rfl sM (eO 10 rfl ?_);refine ar (bC n i (by omega) (by omega)) rfl rfl rfl (fun _ _=>trivial) (fun v45 yU=>?_);subst yU
   refine oX ?_;refine eK 11 rfl (ab (v':=.agg (En (iS n i)).toArray) (bG (cs:=[_,_,_,_,_,_,_,_,_]) (vs:=[_,_]) rfl rfl (.cons rfl rfl rfl rfl rfl (.cons rfl rfl rfl rfl rfl (.nil)))) (by rw[kq])) ?_;refine eK 12 rfl (au rfl rfl mE (by omega)) ?_;refine eO 13 rfl ?_;refine lX i (iS n i) nT bh rfl rfl (by omega) (by rw[Int.toNat_natCast];rfl) fun S' wH=>?_;refine oX ?_;refine cw (by kernel_rfl) ?_;refine aq (xZ bw (ae (oM ?_)));refine oS sD (oA (ak ?_));exact xI (i+1,_,S') ⟨by omega,hl.step (by omega) rfl,wH⟩
  ·refine ay ?_;refine ad (ad (ag (aq (xZ bZ (ae (oM ?_))))));refine oS sD (oA (ak ?_));exact xI (n+1,dO.set n l,S1++(Sn++S2)) ⟨by omega,q8 _ _ nT,tp hA hs (pR hl (by omega)) hx⟩
 ·have hF:ov En 9 42 iS 0 (sls.drop 0) Si:=hI.all (n:=0) (fun j s hs=>by rw[Nat.zero_add];exact hA j s (by have:=(List.getElem?_eq_some_iff.1 hs).1;omega) hs)
  refine ay ?_;refine ad (ad (ag (xZ bJ (cR fun _ bF=>?_))));refine oA (oA (oZ bF (ah fun _ bD=>?_)));refine cR fun _ cb=>?_;refine oA (oZ cb (ai ?_));refine lL (fun (n:Nat)(q1:Sl (Sl Nd))(q2:Sl (Sl Nd))(P1:Hp)(P2:Hp)(G:Hp)(R:Hp)=>n≤sls.length∧q1.xs.length=n∧q2.xs.length=n∧aG cX 1 22 (.slice q1.a q1.xs.length q1.c) q1.xs P1∧aG cX 1 22 (.slice q2.a q2.xs.length q2.c) q2.xs P2∧ov En 9 42 iS n (sls.drop n) R∧yV En iS sls q1.xs q2.xs G n) (fun (n:Nat)(q1:Sl (Sl Nd))(q2:Sl (Sl Nd))(P1:Hp)(P2:Hp)(G:Hp)(R:Hp)=>[(7,.int .i64 n),(5,.slice q1.a q1.xs.length q1.c),(6,.slice q2.a q2.xs.length q2.c)]) [(0,_),(2,_)] (fun (n:Nat)(q1:Sl (Sl Nd))(q2:Sl (Sl Nd))(P1:Hp)(P2:Hp)(G:Hp)(R:Hp)=>(b,.cells cs.toArray 63 (0,0))::(So++(P1++(P2++(G++R))))) (fun (n:Nat)(q1:Sl (Sl Nd))(q2:Sl (Sl Nd))(P1:Hp)(P2:Hp)(G:Hp)(R:Hp)=>sls.length-n) 0 ⟨none,0,[]⟩ ⟨none,0,[]⟩ [] [] [] _ ⟨by omega,rfl,rfl,.nil,.nil,hF,.zero⟩ aH aH aP ?_
  rintro n q1 q2 P1 P2 G R ⟨hn,Jy,MX,tr,ka,hR,hD⟩
  refine ah fun _ bL=>?_;refine cR fun _ bQ=>?_;refine oM (oM ?_);refine oS sN ?_;refine oS sF ?_;refine oS (az rfl (.own aV hb)) ?_;refine oS sC ?_;refine oS (aF rfl rfl) ?_;refine oZ bQ ?_;refine cx rfl (fun cH=>?_) (fun cH=>?_)
  ·obtain⟨s,hs⟩:=kx (sls:=sls) (n:=n) (by omega)
   have jr:=hlen n s hs
   obtain⟨Sa,R2,rfl,GM,EP⟩:=hR.head hs
   have CQ:(Value.slice s.a (j9 iS n s.xs.length).length s.c)=s.v:=by rw[db];rfl
   have pS:=GM.sl
   rw[db] at pS
   refine ax (xZ bL (ah fun _ cO=>?_));refine ai (cR fun _ df=>?_);refine oM ?_;refine oS sN ?_;refine oS sF ?_;refine oS (az rfl (.own aV hb)) ?_;refine oM ?_;refine oS (au rfl rfl gu (by omega)) ?_;refine oS (az rfl ((hO.aU aM).ld n 0 hs rfl (by decide) (by omega))) ?_;refine oA (oZ df (ah fun _ cZ=>?_));refine cR fun _ dq=>?_;refine oM ?_;refine oS sC (oA (oZ dq (ai ?_)));refine lV (fun (i:Nat)(l:List Nd)(la:Option Addr)(lc:Nat)(q3:Sl (Sl Nd))(P3:Hp)(Sk:Hp)(Gk:Hp)=>s.xs.length≤i∧i≤s.xs.length+70∧l=j9 iS n i∧gq En 9 42 s.v (j9 iS n s.xs.length) (.slice la l.length lc) l Sk Gk∧aG cX 1 22 (.slice q3.a q3.xs.length q3.c) q3.xs P3∧((i=s.xs.length∧q3.xs=q1.xs)∨(s.xs.length<i∧∃ o,q3.xs=q1.xs++[o]∧o.xs=j9 iS n (s.xs.length+1)∧eA o.v o.xs.length∧gq En 9 42 o.v o.xs (.slice la l.length lc) l Sk Gk))) (fun (i:Nat)(l:List Nd)(la:Option Addr)(lc:Nat)(q3:Sl (Sl Nd))(P3:Hp)(Sk:Hp)(Gk:Hp)=>[(9,.int .i64 i),(8,.slice la l.length lc),(5,.slice q3.a q3.xs.length q3.c)]) [(0,_),(2,_),(6,_),(7,_),(48,_),(49,_),(50,_),(51,_),(52,_),(53,_),(54,_),(57,_),(58,_),(59,_),(60,_),(61,_),(62,_),(63,_),(64,_),(65,_)] (fun (i:Nat)(l:List Nd)(la:Option Addr)(lc:Nat)(q3:Sl (Sl Nd))(P3:Hp)(Sk:Hp)(Gk:Hp)=>(b,.cells cs.toArray 63 (0,0))::(So++(P3++(P2++(Sk++(Gk++(G++R2))))))) (fun (i:Nat)(l:List Nd)(la:Option Addr)(lc:Nat)(q3:Sl (Sl Nd))(P3:Hp)(Sk:Hp)(Gk:Hp)=>s.xs.length+70-i) s.xs.length (j9 iS n s.xs.length) s.a s.c q1 P1 Sa [] ⟨by omega,by omega,rfl,by rw[CQ];exact gq.start GM,tr,.inl ⟨rfl,rfl⟩⟩ (by exact Sub.cons rfl (Sub.fY rfl (by rw[db];rfl) (Sub.cons rfl .nil))) aH aP ?_
   rintro i l la lc q3 P3 Sk Gk ⟨N0,Ie,hl,hK,yW,hc⟩
   have o9:l.length=i:=by rw[hl,db]
   refine ah fun _ dG=>?_;refine cR fun _ eb=>?_;refine oM (oM ?_);refine oS sN ?_;refine oS sF ?_;refine oS (az rfl (.own aV hb)) ?_;refine oM ?_;refine oS (au rfl rfl gu (by omega)) ?_;refine oS (az rfl ((hO.aU aM).ld n 0 hs rfl (by decide) (by omega))) ?_;refine oS sC ?_;refine oS sD ?_;refine oS (aF rfl rfl) ?_;refine oZ eb ?_;refine cx rfl (fun pQ=>?_) (fun pQ=>?_)
   ·refine ax (xZ dG (ah fun _ dL=>?_));refine ai (cR fun _ dR=>?_);refine oM (oM (oM ?_));refine ar (bC n i (by omega) (by omega)) rfl rfl rfl (fun _ _=>trivial) (fun v82 LR=>?_);subst LR
    refine oS (ab (v':=.agg (En (iS n i)).toArray) (bG (cs:=[_,_,_,_,_,_,_,_,_]) (vs:=[_,_]) rfl rfl (.cons rfl rfl rfl rfl rfl (.cons rfl rfl rfl rfl rfl (.nil)))) (by rw[kq])) ?_;refine ct (E:=En) (xs:=[iS n i]) (vs:=[_]) rfl rfl rfl rfl rfl (by decide) (by decide) fun b84 S84 UT=>?_;refine uH hK.own (UT.aU aM) rfl rfl rfl rfl (by simp only[List.length_singleton];omega) (by simp only[List.length_singleton];omega) rfl bh fun LS LU S85 G85 vO DW=>?_;refine oA (oZ dR (cR fun _ dk=>?_));refine oM (oM ?_);refine oS sN ?_;refine oS sF ?_;refine oS (az rfl (.own aV hb)) ?_;refine oM ?_;refine oS (au rfl rfl gu (by omega)) ?_;refine oS (az rfl ((hO.aU aM).ld n 0 hs rfl (by decide) (by omega))) ?_;refine oS sC ?_
    by_cases tv:i=s.xs.length
    ·have lW:=(hc.resolve_right (fun h=>absurd h.1 (by omega))).2
     have N1:=congrArg List.length lW
     refine oS ij (oZ dk ?_);refine cT (ae (oM (oM ?_)));refine ct (E:=cX) (xs:=[⟨LS,LU,l++[iS n i]⟩]) (vs:=[_]) rfl rfl rfl rfl rfl (by decide) (by decide) fun b98 S98 UU=>?_;refine bX yW (UU.aU aM) rfl rfl rfl rfl (by simp only[List.length_singleton];omega) (by simp only[List.length_singleton];omega) rfl bh fun a99 c99 S99 UW=>?_;refine oA (ak (aq (xZ dL (ae (oM ?_)))));refine oS sD (oA (ak ?_));exact av (cd (i+1,l++[iS n i],LS,LU,⟨a99,c99,q3.xs++[⟨LS,LU,l++[iS n i]⟩]⟩,S99,S85,G85++Gk) ⟨by omega,by omega,by rw[hl];exact fm,hK.app vO DW,UW,.inr ⟨by omega,⟨LS,LU,l++[iS n i]⟩,by rw[lW],by show l++_=_;rw[hl,fm,tv],vO.sl,(gq.start vO).more (fun _ h=>by cases h)⟩⟩ (by first|omega|(dsimp only;omega)) aH (by simp only[List.append_assoc];exact aP))
    ·obtain⟨rb,o,lW,ho,qL,yX⟩:=hc.resolve_left (fun h=>tv h.1)
     refine oS ik (oZ dk ?_);refine cF (ax (aq (xZ dL (ae (oM ?_)))));refine oS sD (oA (ak ?_));exact av (cd (i+1,l++[iS n i],LS,LU,q3,P3,S85,G85++Gk) ⟨by omega,by omega,by rw[hl];exact fm,hK.app vO DW,yW,.inr ⟨by omega,o,lW,ho,qL,yX.app vO DW⟩⟩ (by first|omega|(dsimp only;omega)) aH (by simp only[List.append_assoc];exact aP))
   ·refine ay ?_;refine ad (ad (ag (xZ cZ (ae (oM (oM ?_))))));refine ct (E:=cX) (xs:=[⟨la,lc,l⟩]) (vs:=[_]) rfl rfl rfl rfl rfl (by decide) (by decide) fun agj agk LV=>?_;refine bX ka (LV.aU aM) rfl rfl rfl rfl (by simp only[List.length_singleton];omega) (by simp only[List.length_singleton];omega) rfl bh fun UX UY UZ LW=>?_;refine oA (ak (aq (xZ cO (ae (oM ?_)))));refine oS sD (oA (ak ?_))
    obtain⟨rb,o,lW,ho,qL,yX⟩:=hc.resolve_left (fun h=>absurd h.1 (by omega))
    exact av (cd (n+1,q3,⟨UX,UY,q2.xs++[⟨la,lc,l⟩]⟩,P3,UZ,Sk++(Gk++G),R2) ⟨by omega,by rw[lW];simp;omega,by simp;omega,yW,LW,EP,by rw[lW,← List.append_assoc];exact hD.step Jy MX hs ho (by show l=_;rw[hl];congr 1;omega) pS qL hK.own.sl hK.rds yX.rds (hK.own.rds.mono c4.ga)⟩ (by first|omega|(dsimp only;omega)) aH (by simp only[List.append_assoc];exact aP))
  ·obtain rfl:n=sls.length:=by omega
   have pT:=tr.sl
   have fP:=ka.sl
   refine ay ?_;refine ad (ad (ag (xZ bD (ah fun _ dE=>?_))));refine cR fun _ dS=>?_;refine oA (oZ dS (ai ?_))
   refine aL (fun (j:Nat)=>j≤sls.length) (fun (j:Nat)=>[(10,.int .i64 j)]) [(0,_),(5,_),(6,_)] (fun (j:Nat)=>(b,.cells cs.toArray 63 (0,0))::(So++(P1++(P2++(G++R))))) (fun (j:Nat)=>sls.length-j) 0 (by omega) aH aH aP ?_
   rintro j hj
   refine ah fun _ dW=>?_;refine cR fun _ ee=>?_;refine oM (oM ?_);refine oS sC ?_;refine oS (aF rfl rfl) ?_;refine oZ ee ?_;refine cx rfl (fun cH=>?_) (fun cH=>?_)
   ·obtain⟨s,o,m,hs,ho,hm,CT,kF,N2,io,im,rs,ro,rm⟩:=hD.out j (by omega)
    have ot:m.xs.length=s.xs.length+70:=by rw[kF,db]
    have Xo:o.xs.length=s.xs.length+1:=by rw[CT,db]
    have jr:=hlen j s hs
    refine ax (xZ dW (ah fun _ eh=>?_));refine ai (cR fun _ eD=>?_);refine oA (oZ eD (ai ?_));refine aL (fun (i:Nat)=>i≤s.xs.length+70) (fun (i:Nat)=>[(11,.int .i64 i)]) [(0,_),(5,_),(6,_),(10,_),(104,_),(105,_),(106,_),(107,_)] (fun (i:Nat)=>(b,.cells cs.toArray 63 (0,0))::(So++(P1++(P2++(G++R))))) (fun (i:Nat)=>s.xs.length+70-i) 0 (by omega) aH aH aP ?_
    rintro i hi
    refine ah fun _ dN=>?_;refine cR fun _ e6=>?_;refine oM (oM (oM ?_));refine oS (au rfl rfl fP (by omega)) ?_;refine oS (az rfl ((ka.aU aM).ld j 0 hm rfl (by decide) (by omega))) ?_;refine oS sC ?_;refine oS (aF rfl rfl) ?_;refine oZ e6 ?_;refine cx rfl (fun pQ=>?_) (fun pQ=>?_)
    ·refine ax (xZ dN (ah fun _ du=>?_));refine ai (cR fun _ fF=>?_);refine oM (oM ?_);refine oS (au rfl rfl fP (by omega)) ?_;refine oS (az rfl ((ka.aU aM).ld j 0 hm rfl (by decide) (by omega))) ?_;refine oM ?_;refine oS (au rfl rfl im (by omega)) ?_;refine oS (aD rfl ((rm.aU aM).gx i (by rw[kF];exact cA (by omega)) rfl) rfl) ?_;refine aB (l:=En zN) (by rw[gI];rfl) rfl fun kb=>?_;refine bf rfl rfl bY (by rfl) (by rfl) (eB.one _) ?_;refine oZ fF (ah fun _ fx=>?_);refine cR fun _ fN=>?_;refine oM (oM ?_);refine oS sN ?_;refine oS sF ?_;refine oS (az rfl (.own aV hb)) ?_;refine oM ?_;refine oS (au rfl rfl gu (by omega)) ?_;refine oS (az rfl ((hO.aU aM).ld j 0 hs rfl (by decide) (by omega))) ?_;refine oS sC ?_
     by_cases ER:i<s.xs.length
     ·refine oS wg (oZ fN ?_);refine cT (ae (oM ?_));refine oS sN ?_;refine oS sF ?_;refine oS (az rfl (.own aV hb)) ?_;refine oM ?_;refine oS (au rfl rfl gu (by omega)) ?_;refine oS (az rfl ((hO.aU aM).ld j 0 hs rfl (by decide) (by omega))) ?_;refine oM ?_;refine oS (au rfl rfl N2 (by omega)) ?_;refine oS (aD rfl ((rs.aU aM).gx i (cA (by omega)) rfl) rfl) ?_;refine bf rfl rfl bY (by rfl) (by rfl) (eB.one _) ?_;refine oZ fx (ah fun _ gh=>?_);refine cR fun _ fZ=>?_;refine oM (oM ?_);refine oS sN ?_;refine oS sF ?_;refine oS (az rfl (.own aV hb)) ?_;refine oM ?_;refine oS (au rfl rfl gu (by omega)) ?_;refine oS (az rfl ((hO.aU aM).ld j 0 hs rfl (by decide) (by omega))) ?_;refine oS sC ?_
      by_cases tv:i=s.xs.length
      ·refine oS ij (oZ fZ ?_);refine cT (ae (oM (oM ?_)));refine oS (au rfl rfl pT (by omega)) ?_;refine oS (az rfl ((tr.aU aM).ld j 0 ho rfl (by decide) (by omega))) ?_;refine oM ?_;refine oS (au rfl rfl io (by omega)) ?_;refine oS (aD rfl ((ro.aU aM).gx i (by rw[CT];exact cA (by omega)) rfl) rfl) ?_;refine bf rfl rfl bY (by rfl) (by rfl) (eB.one _) ?_;refine oZ gh (ah fun _ iW=>?_);refine aK ([(kb,.cells (En (iS j i)).toArray 42 (0,0))]) (fun i=>false) ?_;refine eK 0 rfl (aD rfl (aI.aO (.own aV)) aS) ?_;refine eK 1 rfl sM ?_;refine eK 2 rfl sM (eO 3 rfl ?_);refine ar (bC j i (by omega) (by omega)) rfl rfl rfl (fun _ _=>trivial) (fun DX jL=>?_);subst jL
       refine oX ?_;refine eK 4 rfl (ab (v':=.agg (En (iS j i)).toArray) (bG (cs:=[_,_,_,_,_,_,_,_,_]) (vs:=[_,_]) rfl rfl (.cons rfl rfl rfl rfl rfl (.cons rfl rfl rfl rfl rfl (.nil)))) (by rw[kq])) ?_;refine eK 5 rfl (ab (v':=.bool true) (gK (p:=iS j i) (q:=iS j i) rfl rfl) (congrArg Value.bool (decide_eq_true rfl))) ?_;refine eK 6 rfl sA (eZ iW (cR fun _ gA=>?_));refine oM (oM ?_);refine oS (au rfl rfl fP (by omega)) ?_;refine oS (az rfl ((ka.aU aM).ld j 0 hm rfl (by decide) (by omega))) ?_;refine oM ?_;refine oS (au rfl rfl im (by omega)) ?_;refine oS (aD rfl ((rm.aU aM).gx i (by rw[kF];exact cA (by omega)) rfl) rfl) ?_;refine bf rfl rfl bY (by rfl) (by rfl) (eB.one _) ?_;refine oZ gA (ah fun _ iX=>?_);refine aK ([(kb,.cells (En (iS j i)).toArray 42 (0,0))]) (fun i=>false) ?_;refine eK 0 rfl sM ?_;refine eK 1 rfl (aT rfl) ?_;refine eK 2 rfl sM ?_;refine eG 3 rfl (aD rfl (aI.aO (.own aV)) aS) ?_;refine eG 4 rfl sM ?_;refine eG 5 rfl sM (eO 6 rfl ?_);refine oY ?_;refine ar (bC j i (by omega) (by omega)) rfl rfl rfl (fun _ _=>trivial) (fun Bq jM=>?_);subst jM
       refine oX ?_;refine eG 7 rfl (ab (v':=.agg (En (iS j i)).toArray) (bG (cs:=[_,_,_,_,_,_,_,_,_]) (vs:=[_,_]) rfl rfl (.cons rfl rfl rfl rfl rfl (.cons rfl rfl rfl rfl rfl (.nil)))) (by rw[kq])) ?_;refine eG 8 rfl (ab (v':=.bool true) (gK (p:=iS j i) (q:=iS j i) rfl rfl) (congrArg Value.bool (decide_eq_true rfl))) ?_;refine eG 9 rfl (aT rfl) ?_;refine eK 10 rfl sP (eZ iX ?_);refine cF (ax (aq (xZ du (ae (oM ?_)))));refine oS sD (oA (ak ?_));exact xI (i+1) (by omega)
      ·refine oS ik (oZ fZ ?_);refine eL gh (ah fun _ jW=>?_);refine aK ([(kb,.cells (En (iS j i)).toArray 42 (0,0))]) (fun i=>false) ?_;refine eK 0 rfl (aD rfl (aI.aO (.own aV)) aS) ?_;refine eK 1 rfl sM ?_;refine eK 2 rfl sM (eO 3 rfl ?_);refine ar (bC j i (by omega) (by omega)) rfl rfl rfl (fun _ _=>trivial) (fun DX jL=>?_);subst jL
       refine oX ?_;refine eK 4 rfl (ab (v':=.agg (En (iS j i)).toArray) (bG (cs:=[_,_,_,_,_,_,_,_,_]) (vs:=[_,_]) rfl rfl (.cons rfl rfl rfl rfl rfl (.cons rfl rfl rfl rfl rfl (.nil)))) (by rw[kq])) ?_;refine eK 5 rfl (ab (v':=.bool true) (gK (p:=iS j i) (q:=iS j i) rfl rfl) (congrArg Value.bool (decide_eq_true rfl))) ?_;refine eK 6 rfl sA (eZ jW (cR fun _ kT=>?_));refine oM (oM ?_);refine oS (au rfl rfl fP (by omega)) ?_;refine oS (az rfl ((ka.aU aM).ld j 0 hm rfl (by decide) (by omega))) ?_;refine oM ?_;refine oS (au rfl rfl im (by omega)) ?_;refine oS (aD rfl ((rm.aU aM).gx i (by rw[kF];exact cA (by omega)) rfl) rfl) ?_;refine bf rfl rfl bY (by rfl) (by rfl) (eB.one _) ?_;refine oZ kT (ah fun _ nL=>?_);refine aK ([(kb,.cells (En (iS j i)).toArray 42 (0,0))]) (fun i=>false) ?_;refine eK 0 rfl sM ?_;refine eK 1 rfl (aT rfl) ?_;refine eK 2 rfl sM ?_;refine eG 3 rfl (aD rfl (aI.aO (.own aV)) aS) ?_;refine eG 4 rfl sM ?_;refine eG 5 rfl sM (eO 6 rfl ?_);refine oY ?_;refine ar (bC j i (by omega) (by omega)) rfl rfl rfl (fun _ _=>trivial) (fun Bq jM=>?_);subst jM
       refine oX ?_;refine eG 7 rfl (ab (v':=.agg (En (iS j i)).toArray) (bG (cs:=[_,_,_,_,_,_,_,_,_]) (vs:=[_,_]) rfl rfl (.cons rfl rfl rfl rfl rfl (.cons rfl rfl rfl rfl rfl (.nil)))) (by rw[kq])) ?_;refine eG 8 rfl (ab (v':=.bool true) (gK (p:=iS j i) (q:=iS j i) rfl rfl) (congrArg Value.bool (decide_eq_true rfl))) ?_;refine eG 9 rfl (aT rfl) ?_;refine eK 10 rfl sP (eZ nL ?_);refine cF (ax (aq (xZ du (ae (oM ?_)))));refine oS sD (oA (ak ?_));exact xI (i+1) (by omega)
     ·refine oS wh (oZ fN ?_);refine eL fx (ah fun _ kU=>?_);refine cR fun _ kV=>?_;refine oM (oM ?_);refine oS sN ?_;refine oS sF ?_;refine oS (az rfl (.own aV hb)) ?_;refine oM ?_;refine oS (au rfl rfl gu (by omega)) ?_;refine oS (az rfl ((hO.aU aM).ld j 0 hs rfl (by decide) (by omega))) ?_;refine oS sC ?_
      by_cases tv:i=s.xs.length
      ·refine oS ij (oZ kV ?_);refine cT (ae (oM (oM ?_)));refine oS (au rfl rfl pT (by omega)) ?_;refine oS (az rfl ((tr.aU aM).ld j 0 ho rfl (by decide) (by omega))) ?_;refine oM ?_;refine oS (au rfl rfl io (by omega)) ?_;refine oS (aD rfl ((ro.aU aM).gx i (by rw[CT];exact cA (by omega)) rfl) rfl) ?_;refine bf rfl rfl bY (by rfl) (by rfl) (eB.one _) ?_;refine oZ kU (ah fun _ ou=>?_);refine aK ([(kb,.cells (En (iS j i)).toArray 42 (0,0))]) (fun i=>false) ?_;refine eK 0 rfl (aD rfl (aI.aO (.own aV)) aS) ?_;refine eK 1 rfl sM ?_;refine eK 2 rfl sM (eO 3 rfl ?_);refine ar (bC j i (by omega) (by omega)) rfl rfl rfl (fun _ _=>trivial) (fun DX jL=>?_);subst jL
       refine oX ?_;refine eK 4 rfl (ab (v':=.agg (En (iS j i)).toArray) (bG (cs:=[_,_,_,_,_,_,_,_,_]) (vs:=[_,_]) rfl rfl (.cons rfl rfl rfl rfl rfl (.cons rfl rfl rfl rfl rfl (.nil)))) (by rw[kq])) ?_;refine eK 5 rfl (ab (v':=.bool true) (gK (p:=iS j i) (q:=iS j i) rfl rfl) (congrArg Value.bool (decide_eq_true rfl))) ?_;refine eK 6 rfl sA (eZ ou (cR fun _ rh=>?_));refine oM (oM ?_);refine oS (au rfl rfl fP (by omega)) ?_;refine oS (az rfl ((ka.aU aM).ld j 0 hm rfl (by decide) (by omega))) ?_;refine oM ?_;refine oS (au rfl rfl im (by omega)) ?_;refine oS (aD rfl ((rm.aU aM).gx i (by rw[kF];exact cA (by omega)) rfl) rfl) ?_;refine bf rfl rfl bY (by rfl) (by rfl) (eB.one _) ?_;refine oZ rh (ah fun _ uK=>?_);refine aK ([(kb,.cells (En (iS j i)).toArray 42 (0,0))]) (fun i=>false) ?_;refine eK 0 rfl sM ?_;refine eK 1 rfl (aT rfl) ?_;refine eK 2 rfl sM ?_;refine eG 3 rfl (aD rfl (aI.aO (.own aV)) aS) ?_;refine eG 4 rfl sM ?_;refine eG 5 rfl sM (eO 6 rfl ?_);refine oY ?_;refine ar (bC j i (by omega) (by omega)) rfl rfl rfl (fun _ _=>trivial) (fun Bq jM=>?_);subst jM
       refine oX ?_;refine eG 7 rfl (ab (v':=.agg (En (iS j i)).toArray) (bG (cs:=[_,_,_,_,_,_,_,_,_]) (vs:=[_,_]) rfl rfl (.cons rfl rfl rfl rfl rfl (.cons rfl rfl rfl rfl rfl (.nil)))) (by rw[kq])) ?_;refine eG 8 rfl (ab (v':=.bool true) (gK (p:=iS j i) (q:=iS j i) rfl rfl) (congrArg Value.bool (decide_eq_true rfl))) ?_;refine eG 9 rfl (aT rfl) ?_;refine eK 10 rfl sP (eZ uK ?_);refine cF (ax (aq (xZ du (ae (oM ?_)))));refine oS sD (oA (ak ?_));exact xI (i+1) (by omega)
      ·refine oS ik (oZ kV ?_);refine eL kU (ah fun _ yY=>?_);refine aK ([(kb,.cells (En (iS j i)).toArray 42 (0,0))]) (fun i=>false) ?_;refine eK 0 rfl (aD rfl (aI.aO (.own aV)) aS) ?_;refine eK 1 rfl sM ?_;refine eK 2 rfl sM (eO 3 rfl ?_);refine ar (bC j i (by omega) (by omega)) rfl rfl rfl (fun _ _=>trivial) (fun DX jL=>?_);subst jL
       refine oX ?_;refine eK 4 rfl (ab (v':=.agg (En (iS j i)).toArray) (bG (cs:=[_,_,_,_,_,_,_,_,_]) (vs:=[_,_]) rfl rfl (.cons rfl rfl rfl rfl rfl (.cons rfl rfl rfl rfl rfl (.nil)))) (by rw[kq])) ?_;refine eK 5 rfl (ab (v':=.bool true) (gK (p:=iS j i) (q:=iS j i) rfl rfl) (congrArg Value.bool (decide_eq_true rfl))) ?_;refine eK 6 rfl sA (eZ yY (cR fun _ yZ=>?_));refine oM (oM ?_);refine oS (au rfl rfl fP (by omega)) ?_;refine oS (az rfl ((ka.aU aM).ld j 0 hm rfl (by decide) (by omega))) ?_;refine oM ?_;refine oS (au rfl rfl im (by omega)) ?_;refine oS (aD rfl ((rm.aU aM).gx i (by rw[kF];exact cA (by omega)) rfl) rfl) ?_;refine bf rfl rfl bY (by rfl) (by rfl) (eB.one _) ?_;refine oZ yZ (ah fun _ y6=>?_);refine aK ([(kb,.cells (En (iS j i)).toArray 42 (0,0))]) (fun i=>false) ?_;refine eK 0 rfl sM ?_;refine eK 1 rfl (aT rfl) ?_;refine eK 2 rfl sM ?_;refine eG 3 rfl (aD rfl (aI.aO (.own aV)) aS) ?_;refine eG 4 rfl sM ?_;refine eG 5 rfl sM (eO 6 rfl ?_);refine oY ?_;refine ar (bC j i (by omega) (by omega)) rfl rfl rfl (fun _ _=>trivial) (fun Bq jM=>?_);subst jM
       refine oX ?_;refine eG 7 rfl (ab (v':=.agg (En (iS j i)).toArray) (bG (cs:=[_,_,_,_,_,_,_,_,_]) (vs:=[_,_]) rfl rfl (.cons rfl rfl rfl rfl rfl (.cons rfl rfl rfl rfl rfl (.nil)))) (by rw[kq])) ?_;refine eG 8 rfl (ab (v':=.bool true) (gK (p:=iS j i) (q:=iS j i) rfl rfl) (congrArg Value.bool (decide_eq_true rfl))) ?_;refine eG 9 rfl (aT rfl) ?_;refine eK 10 rfl sP (eZ y6 ?_);refine cF (ax (aq (xZ du (ae (oM ?_)))));refine oS sD (oA (ak ?_));exact xI (i+1) (by omega)
    ·refine ay ?_;refine ad (ad (ag (aq (xZ eh (ae (oM ?_))))));refine oS sD (oA (ak ?_));exact xI (j+1) (by omega)
   ·refine ay ?_;refine ad (ad (ag (xZ dE (cR fun _ y7=>?_))));refine oA (oZ y7 (aA ?_));refine ?_;refine cM (Sub.refl _) (H':=(b,.cells cs.toArray 63 (0,0))::So) aP ?_;exact xR rfl rfl (⟨rfl,rfl⟩)
end Go.Proofs.YtmompllplidphaaGreatDoor
namespace Go.HL
open Go
def eu (a:Option Addr)(c lo k:Nat):Option Addr:=if c=lo then a else a.map (·.add (lo*k))
section
variable {P:Program}{κ:Cx}{L:HL.Loc}{H:Hp}{ty t:TypeId}{x y z:Operand}
theorem BM {e s fL n c:Nat}{a:Option Addr}{kl kh:IntKind}{l h:Int} [TU P t (.slice e)] [TI P e s fL](hx:ev L x=some (.slice a n c))(hy:ev L y=some (.int kl l))(hz:ev L z=some (.int kh h))(hb:0≤l∧l≤h∧h≤c) :
   Step P κ (.slice t x (some y) (some z) none) ty L H (.slice (eu a c l.toNat s) (h.toNat-l.toNat) (c-l.toNat)):=
 ⟨fun ρ w d pos af g hρ _=>by
   have b1:0≤h∧h≤c:=by omega
   have b2:0≤l∧l≤(h.toNat:Int):=by omega
   have b3:0≤l∧l≤max h 0:=by omega
   have e2:(Instr.slice t (.slice a n c) (some (.int kl l)) (some (.int kh h)) none).run P w = .ok (.slice (eu a c l.toNat s) (h.toNat-l.toNat) (c-l.toNat)) w:=by
     simp[Instr.slice,cS,Instr.sliceBounds,Instr.sliceBound,asIntOf,b1,b2,b3,bV,eu]
   simp[execOp,hρ _ _ hx,hρ _ _ hy,hρ _ _ hz,Instr.sliceAt,cS,e2]⟩
end
theorem MI {α:Type}(E:α→List Value){k:Nat} [h:eB E k](xs:List α)(lo m:Nat){j:Nat}{u:Value}(hu:(flat E ((xs.drop lo).take m))[j]?=some u):(flat E xs)[lo*k+j]?=some u:=by
 have e:xs=xs.take lo++((xs.drop lo).take m++(xs.drop lo).drop m):=by rw[List.take_append_drop,List.take_append_drop]
 have hj:j<(flat E ((xs.drop lo).take m)).length:=by
   rcases Nat.lt_or_ge j (flat E ((xs.drop lo).take m)).length with h'|h'
   · exact h'
   · rw[List.getElem?_eq_none h'] at hu;cases hu
 rcases Nat.lt_or_ge lo xs.length with hl|hl
 · rw[e,fH,fH]
   have hlen:(flat E (xs.take lo)).length=lo*k:=by rw[cD,List.length_take,Nat.min_eq_left (by omega)]
   rw[List.getElem?_append_right (by omega),hlen,Nat.add_sub_cancel_left,List.getElem?_append_left hj]
   exact hu
 · rw[List.drop_of_length_le hl] at hj;simp[flat] at hj
theorem Rd.mid {α:Type}{E:α→List Value}{k:Nat} [he:eB E k]{w:World}{a:Option Addr}{n c:Nat}{xs:List α}(h:Rd E w (.slice a n c) xs)(lo hi:Nat)(h1:lo≤hi)(h2:hi≤xs.length) :
   Rd E w (.slice (eu a c lo k) ((xs.drop lo).take (hi-lo)).length (c-lo)) ((xs.drop lo).take (hi-lo)):=by
 have hs:=h.sl
 obtain⟨⟨a',c',hv,hn,h0,wc⟩,hle⟩:=hs
 simp only[Value.slice.injEq] at hv
 obtain⟨rfl,rfl,rfl⟩:=hv
 have hlen:((xs.drop lo).take (hi-lo)).length=hi-lo:=by simp;omega
 have hA:∀ A,eu a c lo k=some A→hi-lo≠0→A.spot=none:=by
   intro A hA hz
   unfold eu at hA
   rw[if_neg (by omega)] at hA
   cases a with
   | none=>cases hA
   | some B=>
     have:=wc B rfl (by omega)
     simp only[Option.map_some,Option.some.injEq] at hA
     subst hA
     unfold Addr.add
     split
     · exact this
     · rfl
 refine⟨⟨⟨_,_,rfl,by rw[hlen];omega,fun hm=>?_,fun A hA' hz=>hA A hA' (by rw[hlen] at hz;exact hz)⟩,by rw[hlen];omega⟩,fun j u hu=>?_⟩
 · unfold eu at hm
   split at hm
   · have:=h0 hm;omega
   · cases a with
     | none=>have:=h0 rfl;omega
     | some B=>cases hm
 · have dM:hi-lo≠0:=by
     intro e
     rw[e,List.take_zero] at hu
     simp[flat] at hu
   have hg:=h.get (lo*k+j) u (MI E xs lo (hi-lo) hu)
   have e:ea (.slice (eu a c lo k) ((xs.drop lo).take (hi-lo)).length (c-lo)) j=ea (.slice a xs.length c) (lo*k+j):=by
     unfold eu
     rw[if_neg (by omega)]
     cases a with
     | none=>have:=h0 rfl;omega
     | some B=>
       simp only[ea,kN,nJ,Option.map_some,CB,I9]
       unfold Addr.add
       split
       · rename_i hz;rw[hz,Nat.zero_add]
       · simp only[Nat.add_assoc]
   rw[e]
   exact hg
end Go.HL
namespace Go.HL.cm
open Go Go.HL Go.HL.Kl Go.HL.Kl.Mc
def Iu (PM:Hp)(j i:Nat)(e:Sl Int):Prop:=e.xs = [kP j i]∧lG Ei e.v e.xs PM∧eA e.v e.xs.length
def gU (PM:Hp)(j:Nat)(l:List (Sl Int)):Prop:=∀ (i:Nat)(e:Sl Int),l[i]?=some e→Iu PM j i e
theorem Iu.mono {PM FN:Hp}{j i:Nat}{e:Sl Int}(h:Iu PM j i e)(hs:c4 PM FN):Iu FN j i e:=⟨h.1,h.2.1.mono hs,h.2.2⟩
theorem gU.mono {PM FN:Hp}{j:Nat}{l:List (Sl Int)}(h:gU PM j l)(hs:c4 PM FN):gU FN j l:=fun i e he=>(h i e he).mono hs
theorem gU.nil (PM:Hp)(j:Nat):gU PM j []:=fun i e he=>by cases he
theorem gU.snoc {PM:Hp}{j i:Nat}{l:List (Sl Int)}{e:Sl Int}(h:gU PM j l)(hl:l.length=i)(he:Iu PM j i e):gU PM j (l++[e]):=fun k x hx=>by
 rcases Nat.lt_or_ge k l.length with h1|h1
 · rw[List.getElem?_append_left h1] at hx;exact h k x hx
 · have h2:=(List.getElem?_eq_some_iff.1 hx).1
   simp only[List.length_append,List.length_singleton] at h2
   obtain rfl:k=i:=by omega
   rw[List.getElem?_append_right h1,hl,Nat.sub_self] at hx
   rw[← Option.some.inj hx];exact he
theorem gU.set {PM:Hp}{j i:Nat}{l:List (Sl Int)}{e:Sl Int}(h:gU PM j (l.take i))(hi:i<l.length)(he:Iu PM j i e):gU PM j ((l.set i e).take (i+1)):=by
 have e1:(l.set i e).take (i+1)=l.take i++[e]:=by
   rw[List.take_add_one,List.getElem?_set_self hi,List.take_set_of_le (Nat.le_refl _)];rfl
 rw[e1]
 exact h.snoc (by rw[List.length_take];omega) he
theorem gU.get {PM:Hp}{j:Nat}{l:List (Sl Int)}(h:gU PM j l){i:Nat}(hi:i<l.length):∃ e,l[i]?=some e∧Iu PM j i e:=⟨_,List.getElem?_eq_getElem hi,h i _ (List.getElem?_eq_getElem hi)⟩
inductive mz (T:TypeId)(PM:Hp):Nat→List (Sl (Sl Int))→Hp→Prop
 | nil {n:Nat}:mz T PM n [] []
 | cons {n:Nat}{s:Sl (Sl Int)}{sls:List (Sl (Sl Int))}{l:List (Sl Int)}{S R:Hp}(h:aG cX 1 T s.v l S)(hl:l.length=s.xs.length)(ha:gU PM n l)(hs:mz T PM (n+1) sls R):mz T PM n (s::sls) (S++R)
theorem mz.mono {T:TypeId}{PM FN:Hp}{n:Nat}{sls:List (Sl (Sl Int))}{S:Hp}(h:mz T PM n sls S)(hs:c4 PM FN):mz T FN n sls S:=by
 induction h with
 | nil=>exact .nil
 | cons h hl ha _ ih=>exact .cons h hl (ha.mono hs) ih
def oK (PM:Hp)(sls:List (Sl (Sl Int)))(dO:List (List (Sl Int)))(n:Nat):Prop:=∀ (j:Nat)(s:Sl (Sl Int)),j<n→sls[j]?=some s→∃ l,dO[j]?=some l∧l.length=s.xs.length∧gU PM j l
theorem oK.mono {PM FN:Hp}{sls:List (Sl (Sl Int))}{dO:List (List (Sl Int))}{n:Nat}(h:oK PM sls dO n)(hs:c4 PM FN):oK FN sls dO n:=fun j s hj hsj=>by
 obtain⟨l,h1,h2,h3⟩:=h j s hj hsj
 exact⟨l,h1,h2,h3.mono hs⟩
theorem oK.set {PM:Hp}{sls:List (Sl (Sl Int))}{dO:List (List (Sl Int))}{n:Nat}{s:Sl (Sl Int)}{l xs:List (Sl Int)}(h:oK PM sls dO n)(hs:sls[n]?=some s)(hl:l.length=s.xs.length)(ha:gU PM n l)(hx:dO[n]?=some xs):oK PM sls (dO.set n l) (n+1):=fun j s' hj mT=>by
 by_cases e:n=j
 · subst e
   rw[hs] at mT
   obtain rfl:=Option.some.inj mT
   exact⟨l,List.getElem?_set_self (List.getElem?_eq_some_iff.1 hx).1,hl,ha⟩
 · obtain⟨l',h1,h2,h3⟩:=h j s' (by omega) mT
   exact⟨l',by rw[List.getElem?_set_ne e];exact h1,h2,h3⟩
theorem HG {T:TypeId}{PM:Hp}{sls:List (Sl (Sl Int))}{dO:List (List (Sl Int))}{S:Hp}(h:cG cX 1 T sls dO S):∀ {n:Nat},(∀ (j:Nat)(s:Sl (Sl Int)),sls[j]?=some s→∃ l,dO[j]?=some l∧l.length=s.xs.length∧gU PM (n+j) l)→mz T PM n sls S:=by
 induction h with
 | nil=>intro n _;exact .nil
 | @cons s xs sls dO S R h hs ih=>
   intro n hj
   obtain⟨l,h0,h1,h2⟩:=hj 0 s rfl
   obtain rfl:=Option.some.inj h0
   refine .cons h h1 h2 (ih fun j s' mT=>?_)
   obtain⟨l,g0,g1,g2⟩:=hj (j+1) s' (by simpa using mT)
   exact⟨l,by simpa using g0,g1,by rw[show n+1+j=n+(j+1) by omega];exact g2⟩
theorem mz.head {T:TypeId}{PM:Hp}{sls:List (Sl (Sl Int))}{S:Hp}{n:Nat}{s:Sl (Sl Int)}(h:mz T PM n (sls.drop n) S)(hs:sls[n]?=some s):∃ l S1 S2,S=S1++S2∧aG cX 1 T s.v l S1∧l.length=s.xs.length∧gU PM n l∧mz T PM (n+1) (sls.drop (n+1)) S2:=by
 have hn:n<sls.length:=(List.getElem?_eq_some_iff.1 hs).1
 have e:sls.drop n=s::sls.drop (n+1):=by
   rw[List.drop_eq_getElem_cons hn]
   rw[List.getElem?_eq_getElem hn] at hs
   rw[Option.some.inj hs]
 rw[e] at h
 cases h with
 | cons h1 h2 h3 h4=>exact⟨_,_,_,rfl,h1,h2,h3,h4⟩
structure qA (PM:Hp)(sls kC gX:List (Sl (Sl Int)))(G:Hp)(n:Nat):Prop where
 out:∀ j,j<n→∃ s o m ls,sls[j]?=some s∧kC[j]?=some o∧gX[j]?=some m∧o.xs.length=s.xs.length+1∧m.xs.length=s.xs.length+70∧ls.length=s.xs.length∧gU PM j o.xs∧gU PM j m.xs∧gU PM j ls∧eA s.v s.xs.length∧eA o.v o.xs.length∧eA m.v m.xs.length∧lG cX (.slice s.a ls.length s.c) ls G∧lG cX o.v o.xs G∧lG cX m.v m.xs G
theorem qA.zero {PM:Hp}{sls kC gX:List (Sl (Sl Int))}{G:Hp}:qA PM sls kC gX G 0:=⟨fun _ h=>by omega⟩
theorem qA.mono {PM FN:Hp}{sls kC gX:List (Sl (Sl Int))}{G:Hp}{n:Nat}(h:qA PM sls kC gX G n)(hs:c4 PM FN):qA FN sls kC gX G n:=⟨fun j hj=>by
 obtain⟨s,o,m,ls,a1,a2,a3,a4,a5,a6,b1,b2,b3,c⟩:=h.out j hj
 exact⟨s,o,m,ls,a1,a2,a3,a4,a5,a6,b1.mono hs,b2.mono hs,b3.mono hs,c⟩⟩
theorem qA.step {PM:Hp}{sls kC gX:List (Sl (Sl Int))}{G G':Hp}{n:Nat}{s o m:Sl (Sl Int)}{ls:List (Sl Int)}(h:qA PM sls kC gX G n)(h1:kC.length=n)(h2:gX.length=n)(hs:sls[n]?=some s)
   (ho:o.xs.length=s.xs.length+1)(hm:m.xs.length=s.xs.length+70)(hl:ls.length=s.xs.length)(ao:gU PM n o.xs)(am:gU PM n m.xs)(al:gU PM n ls)(i1:eA s.v s.xs.length)(i2:eA o.v o.xs.length)(i3:eA m.v m.xs.length)(r1:lG cX (.slice s.a ls.length s.c) ls G')(r2:lG cX o.v o.xs G')(r3:lG cX m.v m.xs G'):qA PM sls (kC++[o]) (gX++[m]) (G'++G) (n+1):=by
 refine⟨fun j hj=>?_⟩
 by_cases e:j=n
 · subst e
   exact⟨s,o,m,ls,hs,by rw[List.getElem?_append_right (by omega)];simp[h1],by rw[List.getElem?_append_right (by omega)];simp[h2],ho,hm,hl,ao,am,al,i1,i2,i3,r1.mono c4.ga,r2.mono c4.ga,r3.mono c4.ga⟩
 · obtain⟨s',o',m',ls',a1,a2,a3,a4,a5,a6,b1,b2,b3,c1,c2,c3,d1,d2,d3⟩:=h.out j (by omega)
   exact⟨s',o',m',ls',a1,by rw[List.getElem?_append_left (by omega)];exact a2,by rw[List.getElem?_append_left (by omega)];exact a3,a4,a5,a6,b1,b2,b3,c1,c2,c3,d1.mono c4.mG,d2.mono c4.mG,d3.mono c4.mG⟩
end Go.HL.cm
