/- Part of the proofs over this seat: see the text that holds the theorem. Conditions: each theorem bears its own. -/
import Derived.Test.YtmompllplidphaaGreatDoorHTZ
import Derived.Test.YtmompllplidphaaGreatDoorGRW6Z
import Derived.Test.YtmompllplidphaaGreatDoorSM10Z
import Derived.Test.YtmompllplidphaaGreatDoorMT26Z
import Derived.Test.YtmompllplidphaaGreatDoorGSW14Z
import Derived.Test.YtmompllplidphaaGreatDoorGB1Z
namespace Go.Proofs.YtmompllplidphaaGreatDoor
open Go Go.HL Go.Proofs Go.HL.Kl Go.HL.Kl.Mc Go.HL.cm
set_option maxHeartbeats 8000000 in
theorem GG (ra:Option Addr)(rc:Nat)(re:List Nd)(ey:∀ x∈re,-128≤x.op∧x.op<128):HL.Fn Tryz.prog 8 [.slice ra re.length rc] (fun w=>Rd En w (.slice ra re.length rc) re) [] (fun v S'=>∃ S2,HSub S' S2∧xo re v S2):=by
 refine aW Tryz.func8 rfl rfl rfl fun w0 hw=>?_
 have dr:=hw.sl
 have hle:=dr.le
 refine cR fun _ bI=>?_;refine aB rfl rfl fun b2=>?_;refine oA (oZ bI (ah fun _ bJ=>?_));refine ai (cR fun _ bK=>?_);refine oM ?_;refine ar (lN ra rc re ey) rfl rfl rfl (fun w st=>(cq.bj hw).out w st) (fun v19 R0=>?_);subst R0
 cases mV:bz re
 ·refine oS (aT rfl) ?_;refine oA (oZ bK ?_);refine cT (cR fun _ bU=>?_);refine oS (ab (v':=.agg [.slice none 0 0,.slice none 0 0,.slice none 0 0].toArray) (bG (cs:=[_,_,_]) (vs:=[]) rfl rfl .nil) rfl) ?_;refine bf rfl rfl bY aS aS fE ?_;refine oA (oZ bU (aA ?_));refine aw (aj (?_))
  exact cr rfl (.agg inferInstance inferInstance rfl (aI.aO (.own aV)) aS (.tmp rfl (.nil))) (⟨[],by exact aP,.err (.inl ⟨mV,rfl⟩) rfl (.inl rfl)⟩)
 ·refine oS (aT rfl) ?_;refine oA (oZ bK ?_);refine cF (cR fun _ bT=>?_);refine oM ?_;refine ar (Jo ra rc re ey) rfl rfl rfl (fun w st=>(cq.bj hw).out w st) (fun v24 Jp=>?_);subst Jp
  cases Jq:ez re
  ·refine oA (oZ bT ?_);refine cF (cR fun _ bZ=>?_);refine oM ?_;refine ar (AB ra rc re ey) rfl rfl rfl (fun w st=>(cq.bj hw).out w st) (fun EE ⟨wn,gC,hwn,hwx⟩=>?_);subst gC
   obtain⟨n,ks,hS,hwe⟩:=hwx mV
   unfold cut at hwe
   have ain:re.length≤(F.nd n ks .nil).weight:=by have h9:=cm.F.fe (.nd n ks .nil);have h8:=hS.part.len;omega
   by_cases mS:20<(wn:Int)
   ·refine oS (ab (v':=.bool true) (eX rfl rfl) (congrArg Value.bool (decide_eq_true mS))) ?_;refine oA (oZ bZ ?_);refine cT (cR fun _ cj=>?_);refine oS (ab (v':=.agg [.slice none 0 0,.slice none 0 0,.slice none 0 0].toArray) (bG (cs:=[_,_,_]) (vs:=[]) rfl rfl .nil) rfl) ?_;refine bf rfl rfl bY aS aS fE ?_;refine oA (oZ cj (aA ?_));refine aw (aj (?_))
    exact cr rfl (.agg inferInstance inferInstance rfl (aI.aO (.own aV)) aS (.tmp rfl (.nil))) (⟨[],by exact aP,.err (.inr (.inr (.inl ⟨n,ks,hS,Jq,by omega,rfl⟩))) rfl (.inr mV)⟩)
   ·refine oS (ab (v':=.bool false) (eX rfl rfl) (congrArg Value.bool (decide_eq_false mS))) ?_;refine oA (oZ bZ ?_);refine cF (ax (aq (xZ bJ (cR fun _ ck=>?_))));refine oA (oZ ck (ah fun _ cQ=>?_));refine cR fun _ bw=>?_;refine oA (oZ bw (ai ?_));refine lS (fun (i:Nat)(sa:Option Addr)(sc:Nat)(cl:List Kl.Cl)(SS:Hp)=>i≤re.length∧cl=bB (re.take i)∧aG Ec 4 39 (.slice sa cl.length sc) cl SS) (fun (i:Nat)(sa:Option Addr)(sc:Nat)(cl:List Kl.Cl)(SS:Hp)=>[(4,.slice sa cl.length sc),(5,.int .i64 i)]) [(0,_),(2,_),(3,_)] (fun (i:Nat)(sa:Option Addr)(sc:Nat)(cl:List Kl.Cl)(SS:Hp)=>(b2,.cells [.slice none 0 0,.slice none 0 0,.slice none 0 0].toArray 30 (0,0))::SS) (fun (i:Nat)(sa:Option Addr)(sc:Nat)(cl:List Kl.Cl)(SS:Hp)=>re.length-i) 0 none 0 [] [] ⟨Nat.zero_le _,rfl,aG.nil⟩ aH aH aP ?_
    rintro i sa sc cl SS ⟨hi,jq,hC⟩
    have alV:cl.length≤i:=by rw[jq];exact uz re i
    refine ah fun _ bF=>?_;refine cR fun _ bD=>?_;refine oM (oM ?_);refine oS sC ?_
    by_cases alW:i<re.length
    ·obtain⟨x,ie⟩:∃ x,re[i]?=some x:=gE
     refine oS (ab (v':=.bool true) (aF rfl rfl) (congrArg Value.bool (decide_eq_true (by omega)))) ?_;refine oZ bD ?_;refine gp bF (ah fun _ cb=>?_);refine ai (cR fun _ bL=>?_);refine oM (oM ?_);refine oS (au rfl rfl dr (by omega)) ?_;refine oS sF ?_;refine oS (az rfl ((cq.bj hw).ld i 0 ie rfl (by decide) (by omega))) ?_
     by_cases h1:x.op=1
     ·refine oS (ab (v':=.bool true) (bO rfl rfl) (congrArg Value.bool (decide_eq_true h1))) ?_;refine oZ bL ?_;refine cT (ae (oM (oM (oM ?_))));refine oS (au rfl rfl dr (by omega)) ?_;refine oS sF ?_;refine oS (aD rfl ((cq.bj hw).ldp i 1 ie yH (by omega)) (th _)) ?_;refine ct (E:=Ec) (xs:=[x.set]) (vs:=[_]) rfl rfl rfl rfl rfl (by decide) (by decide) fun W0 VU uA=>?_;refine bX hC (uA.aU aM) rfl rfl rfl rfl (by simp;omega) (by simp;omega) rfl bh fun MT MU Ia q7=>?_;refine oA (ak (aq (xZ cb (ae (oM ?_)))));refine oS sD (oA (ak ?_));exact xI (i+1,MT,MU,cl++[x.set],Ia) ⟨by omega,by rw[jq,uB ie h1],q7⟩
     ·refine oS (ab (v':=.bool false) (bO rfl rfl) (congrArg Value.bool (decide_eq_false h1))) ?_;refine oZ bL ?_;refine cF (ax (aq (xZ cb (ae (oM ?_)))));refine oS sD (oA (ak ?_));exact xI (i+1,sa,sc,cl,SS) ⟨by omega,by rw[jq,xp ie h1],hC⟩
    ·obtain rfl:i=re.length:=by omega
     rw[List.take_length] at jq
     refine oS (ab (v':=.bool false) (aF rfl rfl) (congrArg Value.bool (decide_eq_false (by omega)))) ?_;refine oZ bD ?_;refine cF ?_;refine ay ?_;refine ad (ad (ag (xZ cQ (cR fun _ bQ=>?_))));refine oM ?_;refine aX (F4 sa sc cl) rfl rfl rfl (by exact .nil) (fun w st=>(hC.aU aM).out w st) (fun v52 GH ⟨MV,MW,uC,yQ⟩=>?_);subst uC
     rw[← Jr] at yQ ⊢
     subst jq
     have W1:=(ig (bB re)).1
     have R3:=(ig (bB re)).2
     refine oS (ab (v':=.agg [.slice MV (atoms (bB re)).length MW,.slice none 0 0,.slice none 0 0].toArray) (bG (cs:=[_,_,_]) (vs:=[_]) rfl rfl (.cons rfl rfl rfl rfl rfl .nil)) rfl) ?_;refine aB rfl rfl fun b6=>?_;refine bf rfl rfl bY aS aS fE ?_;refine oZ bQ (cR fun _ cO=>?_);refine oM ?_;refine oS sF ?_;refine oS sL ?_;refine aX (Js ra rc re ey mV n ks hS (by omega) (by omega) MV MW (atoms (bB re)) W1 R3) rfl rfl rfl (by exact .nil) (fun w st=>⟨(cq.bj hw).out w st,(yQ.aU aM).out w st⟩) (fun v57 S57 ado=>?_)
     obtain⟨na,nc,nr,ea,ec,next,ends,sets,q9,Sn,Sq,Se,rfl,rfl,hN,hQ,we,hE,R4,Qg⟩:=ado
     subst we
     have R5:nW (nr.map Sl.xs) ends (atoms (bB re)).length:=by have h9:=R4.ok Qg (by rw[List.length_map];exact W1);rw[List.length_map] at h9;exact h9
     have hNl:nr.length≤1048577:=by have h9:=R4.many hS (by omega);have h8:=R4.ln;rw[List.length_map] at h8;have h7:=R4.qs;omega
     have kH:=R5.len
     rw[List.length_map] at kH
     have pI:=R5.pos
     rw[List.length_map] at pI
     refine aB rfl rfl fun b7=>?_;refine bf rfl rfl bY aS aS fE ?_;refine oZ cO (cR fun _ df=>?_);refine oS (aD rfl (aI.aO (.own aV)) aS) ?_;refine aX (CL (atoms (bB re)).length na nc nr ea ec ends R5 hNl R3) rfl rfl rfl (by exact .nil) (fun w st=>⟨(hN.aU aM).out w st,fun s hs=>(jA hQ rfl aM hs).out w st,(hE.aU aM).out w st⟩) (fun v59 Qh ⟨P,a59,c59,Ga,GI,hPt⟩=>?_);subst Ga
     have W2:=hPt.len
     rw[List.length_map] at W2
     have R6:=GI.sl
     rw[List.length_map,W2] at R6
     rw[List.length_map,W2]
     rw[List.length_map,W2] at GI
     refine oA (oZ df (cR fun _ cZ=>?_));refine oS (aD rfl (aI.aO (.own aV)) aS) ?_;refine aX (GJ (atoms (bB re)).length na nc nr ea ec ends R5 hNl R3) rfl rfl rfl (by exact .nil) (fun w st=>⟨(hN.aU aM).out w st,fun s hs=>(jA hQ rfl aM hs).out w st,(hE.aU aM).out w st⟩) (fun v61 VY ⟨L,a61,c61,adp,GK,NT⟩=>?_);subst adp
     have hLl:=NT.1
     rw[List.length_map] at hLl
     have R7:=GK.sl
     rw[hLl] at R7
     rw[hLl]
     rw[hLl] at GK
     refine oA (oZ cZ (cR fun _ dq=>?_));refine ct (E:=jo) (xs:=[0]) (vs:=[_]) rfl rfl rfl rfl rfl (by decide) (by decide) fun b62 S62 R8=>?_;refine oA (oZ dq (ah fun _ dG=>?_));refine cR fun _ eb=>?_;refine oA (oZ eb (ai ?_));refine cY (fun (i:Nat)(z:MkS)=>z.ml=(lT (⟨[],(nr.map Sl.xs),ends⟩:Wd) P L i).met∧z.xr.map Sl.xs=(lT (⟨[],(nr.map Sl.xs),ends⟩:Wd) P L i).next∧z.ye=(lT (⟨[],(nr.map Sl.xs),ends⟩:Wd) P L i).ends∧(∀ j,j<i→j<(lT (⟨[],(nr.map Sl.xs),ends⟩:Wd) P L j).met.length)∧Jt (⟨[],(nr.map Sl.xs),ends⟩:Wd) P (atoms (bB re)).length i (lT (⟨[],(nr.map Sl.xs),ends⟩:Wd) P L i)∧aG jo 1 3 (.slice z.ma z.ml.length z.mc) z.ml z.Sm∧aG cX 1 36 (.slice z.xa z.xr.length z.xc) z.xr z.Sx∧cG Ei 1 3 z.xr (z.xr.map Sl.xs) z.tn∧aG fR 1 4 (.slice z.ya z.ye.length z.yc) z.ye z.Sy) (fun (i:Nat)(z:MkS)=>[(10,.slice z.ma z.ml.length z.mc),(11,.int .i64 i)]) [(2,_),(3,_),(6,_),(7,_),(8,_),(9,_)] (fun (i:Nat)(z:MkS)=>(b2,.cells [.slice none 0 0,.slice none 0 0,.slice none 0 0].toArray 30 (0,0))::(b6,.cells [.slice MV (atoms (bB re)).length MW,.slice z.xa z.xr.length z.xc,.slice z.ya z.ye.length z.yc].toArray 30 (0,0))::(b7,.cells [.slice na nr.length nc,.slice ea ends.length ec].toArray 79 (0,0))::(GH++(Sn++(Sq++(Se++(Qh++(VY++(z.Sm++(z.Sx++(z.tn++z.Sy)))))))))) (fun (i:Nat)(z:MkS)=>nr.length+1-i) 0 ⟨some ⟨b62,0,none⟩,1,[0],S62,none,0,[],[],[],none,0,[],[]⟩ ⟨rfl,rfl,rfl,(fun j h=>by omega),Jt.zero (by rw[List.length_map];exact pI),R8,aG.nil,.nil,aG.nil⟩ aH aH (by change HSub _ ((b2,.cells [.slice none 0 0,.slice none 0 0,.slice none 0 0].toArray 30 (0,0))::(b6,.cells [.slice MV (atoms (bB re)).length MW,.slice none 0 0,.slice none 0 0].toArray 30 (0,0))::(b7,.cells [.slice na nr.length nc,.slice ea ends.length ec].toArray 79 (0,0))::(GH++(Sn++(Sq++(Se++(Qh++(VY++(S62++([]++([]++[]))))))))));exact aP) ?_
     rintro i ⟨ma,mc,ml,Sm,xa,xc,xr,Sx,tn,ya,yc,ye,Sy⟩ ⟨ot,Nx,W3,NU,Qi,hM,hX,hXq,hY⟩
     dsimp only at ot Nx W3 NU Qi hM hX hXq hY
     dsimp only
     have uD:=Qi.many
     rw[← ot,List.length_map] at uD
     have EM:=Qi.im
     rw[← ot] at EM
     have mH:xr.length=i:=by rw[← Qi.ln,← Nx,List.length_map]
     have hyl:ye.length=i:=by rw[W3];exact Qi.le
     have jr:=hM.sl
     refine ah fun _ dL=>?_;refine cR fun _ dR=>?_;refine oM (oM ?_);refine oS sC ?_
     by_cases B4:i<ml.length
     ·obtain⟨s,VZ⟩:∃ s,ml[i]?=some s:=gE
      have hsN:s<nr.length:=by have h9:=Qi.yI s (by rw[← ot];exact List.mem_of_getElem? VZ);rw[List.length_map] at h9;exact h9
      obtain⟨e,hei⟩:∃ e,ends[s]?=some e:=gE
      obtain⟨sr,hsr⟩:∃ r,nr[s]?=some r:=gE
      have W4:(nr.map Sl.xs)[s]?=some sr.xs:=by rw[List.getElem?_map,hsr];rfl
      obtain⟨hsK,gk⟩:=R5.at_ hsr
      have W5:=List.mem_of_getElem? hsr
      have ads:eA (.slice sr.a sr.xs.length sr.c) sr.xs.length:=EN hQ rfl W5
      refine oS (ab (v':=.bool true) (aF rfl rfl) (congrArg Value.bool (decide_eq_true (by omega)))) ?_;refine oZ dR ?_;refine gp dL (ah fun _ dk=>?_);refine ai (ah fun _ dE=>?_);refine aK ((b6,.cells [.slice MV (atoms (bB re)).length MW,.slice xa xr.length xc,.slice ya ye.length yc].toArray 30 (0,0))::(b7,.cells [.slice na nr.length nc,.slice ea ends.length ec].toArray 79 (0,0))::(Se++Sm)) (fun i=>Nat.beq i 13) ?_;refine eP 0 rfl sF ?_;refine eK 1 rfl sL ?_;refine eP 2 rfl sF ?_;refine eK 3 rfl sL ?_;refine eP 4 rfl sM ?_;refine eP 5 rfl sM ?_;refine eP 6 rfl (au rfl rfl jr (by omega)) ?_;refine eK 7 rfl (az rfl ((hM.aU aM).ld i 0 VZ rfl (by decide) (by omega))) ?_;refine eP 8 rfl (au rfl rfl hE.sl (by omega)) ?_;refine eK 9 rfl (az rfl ((hE.aU aM).ld s 0 hei rfl (by decide) (by omega))) ?_;refine eO 10 rfl ?_;refine ct (E:=fR) (xs:=[e]) (vs:=[_]) rfl rfl rfl rfl rfl (by decide) (by decide) fun b79 S79 R9=>?_;refine oX (eO 11 rfl ?_);refine bX hY (R9.aU aM) rfl rfl rfl rfl (by simp;omega) (by simp;omega) rfl bh fun W6 W7 W8 adt=>?_;refine oX ?_;refine eP 12 rfl sF (eO 13 rfl ?_);refine bg rfl rfl rfl bY kD rfl ?_;refine ak ?_;refine cE rfl ?_;refine eZ dE (cR fun _ dS=>?_)
      refine oA (oZ dS (ah fun _ dW=>?_));refine cR fun _ ee=>?_;refine oA (oZ ee (ai ?_));refine EO (fun (k:Nat)(NV:Option Addr)(NW:Nat)(pM:List Nat)(yl:Hp)(sI:Option Addr)(pN:Nat)(row:List Int)(Sr:Hp)=>k≤(atoms (bB re)).length∧pM=(cz P L (sr.xs.take k) ml).2∧row=(cz P L (sr.xs.take k) ml).1∧aG jo 1 3 (.slice NV pM.length NW) pM yl∧aG Ei 1 3 (.slice sI row.length pN) row Sr∧pM[i]?=some s) (fun (k:Nat)(NV:Option Addr)(NW:Nat)(pM:List Nat)(yl:Hp)(sI:Option Addr)(pN:Nat)(row:List Int)(Sr:Hp)=>[(10,.slice NV pM.length NW),(12,.slice sI row.length pN),(13,.int .i64 k)]) [(2,_),(3,_),(6,_),(7,_),(8,_),(9,_),(11,_),(63,_),(64,_),(65,_),(66,_),(69,_),(70,_),(71,_),(72,_),(73,_),(74,_),(75,_),(76,_),(77,_),(78,_),(79,_),(80,_),(81,_)] (fun (k:Nat)(NV:Option Addr)(NW:Nat)(pM:List Nat)(yl:Hp)(sI:Option Addr)(pN:Nat)(row:List Int)(Sr:Hp)=>(b2,.cells [.slice none 0 0,.slice none 0 0,.slice none 0 0].toArray 30 (0,0))::(b6,.cells [.slice MV (atoms (bB re)).length MW,.slice xa xr.length xc,.slice W6 (ye++[e]).length W7].toArray 30 (0,0))::(b7,.cells [.slice na nr.length nc,.slice ea ends.length ec].toArray 79 (0,0))::(GH++(Sn++(Sq++(Se++(Qh++(VY++(yl++(Sx++(tn++(W8++Sr))))))))))) (fun (k:Nat)(NV:Option Addr)(NW:Nat)(pM:List Nat)(yl:Hp)(sI:Option Addr)(pN:Nat)(row:List Int)(Sr:Hp)=>(atoms (bB re)).length-k) 0 ma mc ml Sm none 0 [] [] ⟨Nat.zero_le _,rfl,rfl,hM,aG.nil,VZ⟩ aH aH (by change HSub _ ((b2,.cells [.slice none 0 0,.slice none 0 0,.slice none 0 0].toArray 30 (0,0))::(b6,.cells [.slice MV (atoms (bB re)).length MW,.slice xa xr.length xc,.slice W6 (ye++[e]).length W7].toArray 30 (0,0))::(b7,.cells [.slice na nr.length nc,.slice ea ends.length ec].toArray 79 (0,0))::(GH++(Sn++(Sq++(Se++(Qh++(VY++(Sm++(Sx++(tn++(W8++[])))))))))));exact aP) ?_
      rintro k NV NW pM yl sI pN row Sr ⟨hk,yR,kR,Em,NX,Ju⟩
      have NY:=Em.sl
      have adu:=(List.getElem?_eq_some_iff.1 Ju).1
      have pO:=Qi.row R5 (by rw[NT.1]) (by rw[List.length_map];exact hsN) W4 k
      rw[← ot,← yR] at pO
      have Sd:=fJ (lU pO.1) pO.2
      rw[List.length_map] at Sd
      have al1:row.length=k:=by rw[kR];exact nq (by omega)
      refine ah fun _ eh=>?_;refine cR fun _ eD=>?_;refine oM ?_;refine oS sF ?_;refine oS sL ?_;refine oS sC ?_
      by_cases z7:k<(atoms (bB re)).length
      ·obtain⟨Qj,hxN⟩:=gk k z7
       obtain⟨x,hxx⟩:∃ x,x=nx (nr.map Sl.xs) s k:=⟨_,rfl⟩
       rw[← hxx] at Qj hxN
       obtain⟨lx,CM⟩:∃ b,L[x]?=some b:=gE
       refine oS (ab (v':=.bool true) (aF rfl rfl) (congrArg Value.bool (decide_eq_true (by omega)))) ?_;refine oZ eD ?_;refine gp eh (ah fun _ dN=>?_);refine ai (ah fun _ e6=>?_);refine iA (by kernel_rfl) ?_;refine .op rfl (j8 rfl rfl (by decide)) ?_;refine .op rfl (az rfl (.own aV rfl)) ?_;refine .op rfl (ba rfl) ?_;refine .op rfl (ba rfl) ?_;refine .op rfl (au rfl rfl NY (by omega)) ?_;refine .op rfl (az rfl ((Em.aU aM).ld i 0 Ju rfl (by decide) (by omega))) ?_;refine .op rfl (au rfl rfl hN.sl (by omega)) ?_;refine .op rfl (az rfl ((hN.aU aM).ld (u:=.slice sr.a sr.xs.length sr.c) s 0 hsr rfl (by decide) (by omega))) ?_;refine .op rfl (ba rfl) ?_;refine .op rfl (au rfl rfl ads (by omega)) ?_;refine .op rfl (az rfl ((show cq jo _ _ (.slice sr.a sr.xs.length sr.c) sr.xs from jA hQ rfl aM W5).ld k 0 Qj rfl (by decide) (by omega))) ?_;refine .op rfl (dF rfl) ?_;refine .nil ?_;refine xZ e6 (cR fun _ du=>?_);refine oA (oZ du ?_);refine fU (ι:=Int) (fun val=>adv P pM L x lx val) (fun val=>[(15,.int .i64 val)]) [(2,_),(3,_),(6,_),(7,_),(8,_),(9,_),(10,_),(11,_),(12,_),(13,_),(14,_),(63,_),(64,_),(65,_),(66,_),(69,_),(70,_),(71,_),(72,_),(73,_),(74,_),(75,_),(76,_),(77,_),(78,_),(79,_),(80,_),(81,_),(82,_),(83,_),(84,_),(85,_),(86,_),(89,_),(90,_),(91,_),(92,_),(93,_),(94,_),(95,_),(96,_),(97,_),(98,_),(99,_)] (fun val=>(b2,.cells [.slice none 0 0,.slice none 0 0,.slice none 0 0].toArray 30 (0,0))::(b6,.cells [.slice MV (atoms (bB re)).length MW,.slice xa xr.length xc,.slice W6 (ye++[e]).length W7].toArray 30 (0,0))::(b7,.cells [.slice na nr.length nc,.slice ea ends.length ec].toArray 79 (0,0))::(GH++(Sn++(Sq++(Se++(Qh++(VY++(yl++(Sx++(tn++(W8++Sr))))))))))) aH ?_ ?_
       ·rintro val iP
        refine ah fun _ fx=>?_;refine cR fun _ fN=>?_;refine oM (oM ?_);refine oS (au rfl rfl R7 (by omega)) ?_
        by_cases z8:lx=true
        ·refine oS (ab (v':=.bool true) (az rfl ((GK.aU aM).ld x 0 CM rfl (by decide) (by omega))) (by rw[z8])) ?_;refine oM ?_;refine oY (oM ?_);refine oY ?_
         by_cases Rl:val<0
         ·have kE:jQ P L pM x=((pM.length:Int),pM++[x]):=by rcases iP with ⟨h9,_⟩|⟨_,_,h9⟩|⟨_,h9,_⟩;(· rw[z8] at h9;cases h9);(· exact h9);(· exact absurd Rl h9)
          refine oS (ab (v':=.bool true) (aF rfl rfl) (congrArg Value.bool (decide_eq_true Rl))) ?_;refine oS sT (oZ fN ?_);refine cT (cR fun _ gh=>?_);refine oM ?_;refine oS sC (oA (oZ gh (ae (oM (oM ?_)))));refine ct (E:=jo) (xs:=[x]) (vs:=[_]) rfl rfl rfl rfl rfl (by decide) (by decide) fun al4 al5 W9=>?_;refine bX Em (W9.aU aM) rfl rfl rfl rfl (by simp;omega) (by simp;omega) rfl bh fun adw adx ady Xa=>?_;refine oA (oZ fx (ae (oM (oM ?_))));refine ct (E:=Ei) (xs:=[((pM.length:Nat):Int)]) (vs:=[_]) rfl rfl rfl rfl rfl (by decide) (by decide) fun Xb Xd AD=>?_;refine bX NX (AD.aU aM) rfl rfl rfl rfl (by simp;omega) (by simp;omega) rfl bh fun CN CO yS rX=>?_;refine oA (ak (aq (xZ dN (ae (oM ?_)))));refine oS sD (oA (ak ?_));exact av (cd (k+1,adw,adx,pM++[x],ady,CN,CO,row++[((pM.length:Nat):Int)],yS) ⟨by omega,by rw[dh Qj,← yR,kE],by rw[dh Qj,← yR,kE,← kR],Xa,rX,by rw[List.getElem?_append_left adu];exact Ju⟩ (by dsimp only;omega) aH aP)
         ·have kE:jQ P L pM x=(val,pM):=by rcases iP with ⟨h9,_⟩|⟨_,h9,_⟩|⟨_,_,h9⟩;(· rw[z8] at h9;cases h9);(· exact absurd h9 Rl);(· exact h9)
          refine oS (ab (v':=.bool false) (aF rfl rfl) (congrArg Value.bool (decide_eq_false Rl))) ?_;refine oS sT (oZ fN ?_);refine eL fx (ae (oM (oM ?_)));refine ct (E:=Ei) (xs:=[val]) (vs:=[_]) rfl rfl rfl rfl rfl (by decide) (by decide) fun Xb Xd AD=>?_;refine bX NX (AD.aU aM) rfl rfl rfl rfl (by simp;omega) (by simp;omega) rfl bh fun CN CO yS rX=>?_;refine oA (ak (aq (xZ dN (ae (oM ?_)))));refine oS sD (oA (ak ?_));exact av (cd (k+1,NV,NW,pM,yl,CN,CO,row++[val],yS) ⟨by omega,by rw[dh Qj,← yR,kE],by rw[dh Qj,← yR,kE,← kR],Em,rX,Ju⟩ (by dsimp only;omega) aH aP)
        ·obtain⟨_,rfl⟩:lx=false∧val = -1:=by rcases iP with h9|⟨h9,_⟩|⟨h9,_⟩;(· exact h9);(· exact absurd h9 z8);(· exact absurd h9 z8)
         have kE:jQ P L pM x=(-1,pM):=kS (by rw[CM];simpa using z8)
         refine oS (ab (v':=.bool false) (az rfl ((GK.aU aM).ld x 0 CM rfl (by decide) (by omega))) (by rw[Bool.not_eq_true] at z8;rw[z8])) ?_;refine oM ?_;refine oN ?_;refine oN ?_;refine oS sP (oZ fN ?_);refine eL fx (ae (oM (oM ?_)));refine ct (E:=Ei) (xs:=[(-1)]) (vs:=[_]) rfl rfl rfl rfl rfl (by decide) (by decide) fun Xb Xd AD=>?_;refine bX NX (AD.aU aM) rfl rfl rfl rfl (by simp;omega) (by simp;omega) rfl bh fun CN CO yS rX=>?_;refine oA (ak (aq (xZ dN (ae (oM ?_)))));refine oS sD (oA (ak ?_));exact av (cd (k+1,NV,NW,pM,yl,CN,CO,row++[(-1:Int)],yS) ⟨by omega,by rw[dh Qj,← yR,kE],by rw[dh Qj,← yR,kE,← kR],Em,rX,Ju⟩ (by dsimp only;omega) aH aP)
       ·intro _ GL
        refine cR fun _ fZ=>?_;refine oA (oZ fZ (ai ?_));refine cY (fun (j:Nat)(val:Int)=>j≤pM.length∧pP P pM x j val∧(lx=true∨(j=0∧val = -1))) (fun (j:Nat)(val:Int)=>[(15,.int .i64 val),(16,.int .i64 j)]) [(2,_),(3,_),(6,_),(7,_),(8,_),(9,_),(10,_),(11,_),(12,_),(13,_),(14,_),(63,_),(64,_),(65,_),(66,_),(69,_),(70,_),(71,_),(72,_),(73,_),(74,_),(75,_),(76,_),(77,_),(78,_),(79,_),(80,_),(81,_),(82,_),(83,_),(84,_),(85,_),(86,_),(89,_),(90,_),(91,_),(92,_),(93,_),(94,_),(95,_),(96,_),(97,_),(98,_),(99,_)] (fun (j:Nat)(val:Int)=>(b2,.cells [.slice none 0 0,.slice none 0 0,.slice none 0 0].toArray 30 (0,0))::(b6,.cells [.slice MV (atoms (bB re)).length MW,.slice xa xr.length xc,.slice W6 (ye++[e]).length W7].toArray 30 (0,0))::(b7,.cells [.slice na nr.length nc,.slice ea ends.length ec].toArray 79 (0,0))::(GH++(Sn++(Sq++(Se++(Qh++(VY++(yl++(Sx++(tn++(W8++Sr))))))))))) (fun (j:Nat)(val:Int)=>pM.length-j) 0 (-1) ⟨Nat.zero_le _,pP.zero _ _ _,.inr ⟨rfl,rfl⟩⟩ aH aH aP ?_
        rintro j val ⟨hj,Cm,Qk⟩
        refine ah fun _ iW=>?_;refine cR fun _ gA=>?_;refine oM (oM ?_);refine oS sC ?_
        by_cases Ib:j<pM.length
        ·obtain⟨mj,Sg⟩:∃ m,pM[j]?=some m:=gE
         have al6:mj<nr.length:=by have h9:=pO.2 mj (List.mem_of_getElem? Sg);rw[List.length_map] at h9;exact h9
         refine oS (ab (v':=.bool true) (aF rfl rfl) (congrArg Value.bool (decide_eq_true (by omega)))) ?_;refine oM ?_;refine oY (oM ?_);refine oY (oM ?_);refine oY ?_;refine oS (au rfl rfl R7 (by omega)) ?_;refine oY ?_
         by_cases CP:lx=true
         ·refine oS (ab (v':=.bool true) (az rfl ((GK.aU aM).ld x 0 CM rfl (by decide) (by omega))) (by rw[CP])) ?_;refine oS sT (oM ?_);refine oY (oM ?_);refine oY ?_
          by_cases z9:val<0
          ·refine oS (ab (v':=.bool true) (aF rfl rfl) (congrArg Value.bool (decide_eq_true z9))) ?_;refine oS sT (oZ gA ?_);refine gp iW (ah fun _ iX=>?_);refine ai (ah fun _ jW=>?_);refine iA (by kernel_rfl) ?_;refine .op rfl (ba rfl) ?_;refine .op rfl (ba rfl) ?_;refine .op rfl (ba rfl) ?_;refine .op rfl (au rfl rfl NY (by omega)) ?_;refine .op rfl (az rfl ((Em.aU aM).ld j 0 Sg rfl (by decide) (by omega))) ?_;refine .op rfl (au rfl rfl R6 (by omega)) ?_;refine .op rfl (az rfl ((GI.aU aM).ld mj 0 (Sh (by omega)) rfl (by decide) (by omega))) ?_;refine .op rfl (ba rfl) ?_;refine .op rfl (ba rfl) ?_;refine .op rfl (au rfl rfl R6 (by omega)) ?_;refine .op rfl (az rfl ((GI.aU aM).ld x 0 (Sh (by omega)) rfl (by decide) (by omega))) ?_
           by_cases Xe:pt P mj=pt P x
           ·refine .op rfl (ab (v':=.bool true) (bO rfl rfl) (congrArg Value.bool (decide_eq_true (by omega)))) ?_;refine .nil ?_;refine xZ jW ?_;refine cT (ae (oM (oA (ak (aq (xZ iX (ae (oM ?_))))))));refine oS sD (oA (ak ?_));exact av (cd (j+1,((j:Nat):Int)) ⟨by omega,Cm.mX z9 Sg Xe,.inl CP⟩ (by dsimp only;omega) aH aP)
           ·refine .op rfl (ab (v':=.bool false) (bO rfl rfl) (congrArg Value.bool (decide_eq_false (by omega)))) ?_;refine .nil ?_;refine xZ jW ?_;refine cF (ax (aq (xZ iX (ae (oM ?_)))));refine oS sD (oA (ak ?_));exact av (cd (j+1,val) ⟨by omega,Cm.skip z9 Sg Xe,.inl CP⟩ (by dsimp only;omega) aH aP)
          ·refine oS (ab (v':=.bool false) (aF rfl rfl) (congrArg Value.bool (decide_eq_false z9))) ?_;refine oS sT (oZ gA ?_);refine cF ?_;refine ay ?_;refine ad (ad (ag ?_));exact av (GL val _ _ (.inr (.inr ⟨CP,z9,Cm.found z9 (by rw[CM,CP])⟩)) aH aH aP)
         ·refine oS (ab (v':=.bool false) (az rfl ((GK.aU aM).ld x 0 CM rfl (by decide) (by omega))) (by rw[Bool.not_eq_true] at CP;rw[CP])) ?_;refine oS sT (oM ?_);refine oN ?_;refine oN ?_;refine oS sP (oZ gA ?_);refine cF ?_;refine ay ?_;refine ad (ad (ag ?_));exact av (GL val _ _ (.inl ⟨by simpa using CP,by rcases Qk with h9|h9;(· exact absurd h9 CP);(· exact h9.2)⟩) aH aH aP)
        ·refine oS (ab (v':=.bool false) (aF rfl rfl) (congrArg Value.bool (decide_eq_false (by omega)))) ?_;refine oM ?_;refine oN ?_;refine oN ?_;refine oN ?_;refine oN ?_;refine oS sP (oM ?_);refine oN ?_;refine oN ?_;refine oS sP (oZ gA ?_);refine cF ?_;refine ay ?_;refine ad (ad (ag ?_));exact av (GL val _ _ (by cases e9:lx with|false=>(exact .inl ⟨rfl,by rcases Qk with h9|h9;(· rw[e9] at h9;cases h9);(· exact h9.2)⟩)|true=>(by_cases h9:val<0;(· exact .inr (.inl ⟨rfl,h9,Cm.none h9 (by omega) (by rw[CM,e9])⟩));(· exact .inr (.inr ⟨rfl,h9,Cm.found h9 (by rw[CM,e9])⟩)))) aH aH aP)
      ·obtain rfl:k=(atoms (bB re)).length:=by omega
       rw[← hsK,List.take_length] at yR kR
       have uE:lT (⟨[],(nr.map Sl.xs),ends⟩:Wd) P L (i+1)=⟨pM,(lT (⟨[],(nr.map Sl.xs),ends⟩:Wd) P L i).next++[row],(lT (⟨[],(nr.map Sl.xs),ends⟩:Wd) P L i).ends++[e]⟩:=by { show gH _ P L i (lT (⟨[],(nr.map Sl.xs),ends⟩:Wd) P L i)=_;rw[ns (by rw[← ot];exact VZ) W4 hei,← ot,← yR,← kR] }
       refine oS (ab (v':=.bool false) (aF rfl rfl) (congrArg Value.bool (decide_eq_false (by omega)))) ?_;refine oZ eD ?_;refine cF ?_;refine ay ?_;refine ad (ad (ag (xZ dW (ae ?_))));refine oS sF ?_;refine oS sL (oM ?_);refine ct (E:=cX) (xs:=[(⟨sI,pN,row⟩:Sl Int)]) (vs:=[_]) rfl rfl rfl rfl rfl (by decide) (by decide) fun al7 adz Xf=>?_;refine bX hX (Xf.aU aM) rfl rfl rfl rfl (by simp;omega) (by simp;omega) rfl bh fun adA adB Xg Jv=>?_;refine oS sF ?_;refine bg rfl rfl rfl bY kD rfl ?_;refine ak (aq (xZ dk (ae (oM ?_))));refine oS sD (oA (ak ?_));exact av (cd (i+1,⟨NV,NW,pM,yl,adA,adB,xr++[⟨sI,pN,row⟩],Xg,tn++Sr,W6,W7,(ye++[e]),W8⟩) ⟨by rw[uE],by rw[uE,List.map_append,Nx];rfl,by rw[uE,W3],fun j hj=>(by rcases Nat.lt_or_ge j i with h9|h9;(· exact NU j h9);(· obtain rfl:j=i:=(by omega);rw[← ot];exact B4)),by have h9:=Qi.step R5 (by rw[NT.1]) (by rw[← ot];exact B4);exact h9,Em,Jv,by rw[List.map_append];exact hXq.snoc (s:=⟨sI,pN,row⟩) NX,adt⟩ (by omega) aH (by simp only[List.append_assoc];exact aP))
     ·have hRf:=Xh hS (NZ mV Jq) R4 Qg (P:=P) (L:=L) (i:=i) (by rw[B5,List.length_map];exact hPt) NT (by rw[← ot];omega) NU
      have iP:=Jw hS mV Jq (by omega) hRf
      rw[← ot] at iP
      refine oS (ab (v':=.bool false) (aF rfl rfl) (congrArg Value.bool (decide_eq_false (by omega)))) ?_;refine oZ dR ?_;refine cF ?_;refine ay ?_;refine ad (ad (ag (xZ dG (ah fun _ kT=>?_))));refine cR fun _ nL=>?_;refine oM ?_;refine oS sC ?_
      by_cases hm6:256<(ml.length:Int)
      ·refine oS (ab (v':=.bool true) (eX rfl rfl) (congrArg Value.bool (decide_eq_true hm6))) ?_;refine oZ nL ?_;refine cT (cR fun _ kU=>?_);refine oS (ab (v':=.agg [.slice none 0 0,.slice none 0 0,.slice none 0 0].toArray) (bG (cs:=[_,_,_]) (vs:=[]) rfl rfl .nil) rfl) ?_;refine bf rfl rfl bY aS aS fE ?_;refine oA (oZ kU (aA ?_));refine aj (?_);exact cr rfl (.agg inferInstance inferInstance rfl (aI.aO (.own aV)) aS (.tmp rfl (.nil))) (⟨[],by exact aP,.err (iP.1 (by omega)) rfl (.inr mV)⟩)
      ·refine oS (ab (v':=.bool false) (eX rfl rfl) (congrArg Value.bool (decide_eq_false hm6))) ?_;refine oZ nL ?_;refine eL kT (cR fun _ kV=>?_);refine oS (aD rfl (aI.aO (.own aV)) aS) ?_;refine bf rfl rfl bY aS aS fE ?_;refine oA (oZ kV (aA ?_));refine ?_;exact cr rfl (.agg inferInstance inferInstance rfl (aI.aO (.own aV)) aS (.tmp rfl (.nil))) (⟨Sx++(tn++(Sy++GH)),by exact aP,.ok (iP.2 (by omega)) rfl ⟨xa,xc,xr,ya,yc,MV,MW,Sx,tn,Sy,GH,by rw[W3],rfl,hX,by dsimp only;rw[← Nx];exact hXq,Nx.symm,by rw[W3] at hY;exact hY,yQ⟩⟩)
  ·refine oA (oZ bT ?_);refine cT (cR fun _ ou=>?_);refine oS (ab (v':=.agg [.slice none 0 0,.slice none 0 0,.slice none 0 0].toArray) (bG (cs:=[_,_,_]) (vs:=[]) rfl rfl .nil) rfl) ?_;refine bf rfl rfl bY aS aS fE ?_;refine oA (oZ ou (aA ?_));refine aw (aj (?_))
   exact cr rfl (.agg inferInstance inferInstance rfl (aI.aO (.own aV)) aS (.tmp rfl (.nil))) (⟨[],by exact aP,.err (.inr (.inl ⟨mV,Jq,rfl⟩)) rfl (.inr mV)⟩)
theorem Jx (ra:Option Addr)(rc:Nat)(re:List Nd)(ey:∀ x∈re,-128≤x.op∧x.op<128):HL.Fn Tryz.prog 8 [.slice ra re.length rc] (fun w=>Rd En w (.slice ra re.length rc) re) [] (xo re):=
 HL.Fn.sub (GG ra rc re ey) fun v S' ⟨S2,h1,h2⟩=>⟨S2,h1,h2⟩
theorem RI {d1 d2:Df}(h1:d1.atoms=d2.atoms)(h2:d1.next=d2.next)(h3:d1.ends=d2.ends):d1=d2:=by
 cases d1;cases d2;simp_all
set_option maxHeartbeats 1000000 in
theorem uq (d1:Df)(lH:Option Addr)(lI:Nat)(lJ:Option Addr)(lK:Nat)(cW:List (Sl Int))(ko:Option Addr)(kp:Nat)(oW:d1.next=cW.map Sl.xs)(d2:Df)(j3:Option Addr)(j4:Nat)(iJ:Option Addr)(iK:Nat)(cu:List (Sl Int))(fi:Option Addr)(fj:Nat)(nU:d2.next=cu.map Sl.xs):HL.Fn Tryz.prog 10 [.agg [.slice lH d1.atoms.length lI,.slice lJ cW.length lK,.slice ko d1.ends.length kp].toArray,.agg [.slice j3 d2.atoms.length j4,.slice iJ cu.length iK,.slice fi d2.ends.length fj].toArray] (fun w=>Cu d1 lH lI lJ lK cW ko kp w∧Cu d2 j3 j4 iJ iK cu fi fj w) [] (fun v _=>v = .bool (decide (d1=d2))):=by
 refine aW Tryz.func10 rfl rfl rfl fun w0 hw=>?_
 obtain⟨RJ,hw2⟩:=hw
 refine cR fun _ bI=>?_;refine cB rfl rfl rfl fun b2=>?_;refine cB rfl rfl rfl fun b3=>?_;refine oA (oZ bI (cR fun _ bJ=>?_));refine oS sF ?_;refine oS sL ?_;refine oS sF ?_;refine oS sL ?_;refine ar (RK lH j3 lI j4 d1.atoms d2.atoms) rfl rfl rfl (fun w st=>⟨(cq.bj RJ.at_).out w st,(cq.bj hw2.at_).out w st⟩) (fun v9 hv9=>?_)
 cases hq9:decide (d1.atoms=d2.atoms)
 ·rw[hq9] at hv9
  subst hv9
  have h1:=of_decide_eq_false hq9
  refine oM ?_;refine oN ?_;refine oN ?_;refine oN ?_;refine oN ?_;refine oN ?_;refine oS sP (oM ?_);refine oN ?_;refine oN ?_;refine oN ?_;refine oN ?_;refine oN ?_;refine oS sP (oA (oZ bJ (aA ?_)));refine ?_;exact xR rfl rfl ((congrArg Value.bool (decide_eq_false (fun e=>h1 (by rw[e]))).symm))
 ·rw[hq9] at hv9
  subst hv9
  have h1:=of_decide_eq_true hq9
  refine oM ?_;refine oY ?_;refine oS sF ?_;refine oY ?_;refine oS sL ?_;refine oY ?_;refine oS sF ?_;refine oY ?_;refine oS sL ?_;refine oY ?_;refine ar (Cp lJ iJ lK iK cW cu) rfl rfl rfl (fun w st=>⟨(cq.bj RJ.nx).out w st,(cq.bj hw2.nx).out w st,fun s hs=>(cq.bj (RJ.IQ s hs)).out w st,fun s hs=>(cq.bj (hw2.IQ s hs)).out w st⟩) (fun v15 NM=>?_)
  cases NN:decide (cW.map Sl.xs=cu.map Sl.xs)
  ·rw[NN] at NM
   subst NM
   have h2:=of_decide_eq_false NN
   refine oS sT (oM ?_);refine oN ?_;refine oN ?_;refine oN ?_;refine oN ?_;refine oN ?_;refine oS sP (oA (oZ bJ (aA ?_)));refine ?_;exact xR rfl rfl ((congrArg Value.bool (decide_eq_false (fun e=>h2 (by rw[← oW,← nU,e]))).symm))
  ·rw[NN] at NM
   subst NM
   have h2:=of_decide_eq_true NN
   refine oS sT (oM ?_);refine oY ?_;refine oS sF ?_;refine oY ?_;refine oS sL ?_;refine oY ?_;refine oS sF ?_;refine oY ?_;refine oS sL ?_;refine oY ?_;refine ar (RL ko fi kp fj d1.ends d2.ends) rfl rfl rfl (fun w st=>⟨(cq.bj RJ.en).out w st,(cq.bj hw2.en).out w st⟩) (fun v22 qO=>?_)
   cases NO:decide (d1.ends=d2.ends)
   ·rw[NO] at qO
    subst qO
    have h3:=of_decide_eq_false NO
    refine oS sT (oA (oZ bJ (aA ?_)));refine ?_;exact xR rfl rfl ((congrArg Value.bool (decide_eq_false (fun e=>h3 (by rw[e]))).symm))
   ·rw[NO] at qO
    subst qO
    have h3:=of_decide_eq_true NO
    refine oS sT (oA (oZ bJ (aA ?_)));refine ?_;exact xR rfl rfl ((congrArg Value.bool (decide_eq_true (RI h1 (by rw[oW,nU,h2]) h3)).symm))
theorem Dt (a a2:Option Addr)(c c2:Nat)(xs ys:List Nd):HL.Fn Tryz.prog 11 [.slice a xs.length c,.slice a2 ys.length c2] (fun w=>Rd En w (.slice a xs.length c) xs∧Rd En w (.slice a2 ys.length c2) ys) [] (fun v _=>v = .bool (decide (xs=ys))):=by
 refine aW Tryz.func11 rfl rfl rfl fun w0 hw=>?_
 obtain⟨hx,hy⟩:=hw
 have gk:=hx.sl
 have tW:=hy.sl
 have Cf:=gk.le
 have H7:=tW.le
 refine cR fun _ bI=>?_;refine oA (oZ bI (ah fun _ bJ=>?_));refine cR fun _ bK=>?_;refine oM ?_;refine oS sC (oM ?_);refine oS sC ?_;refine oS (eY rfl rfl) ?_;refine oZ bK ?_;refine cx rfl (fun hl=>?_) (fun hl=>?_)
 ·refine cR fun _ bU=>?_;refine oA (oZ bU (aA ?_));refine aj (?_);exact xR rfl rfl ((congrArg Value.bool (decide_eq_false (by intro e;subst e;omega)).symm))
 ·refine ax (xZ bJ (ah fun _ bT=>?_));refine cR fun _ bZ=>?_;refine oA (oZ bZ (ai ?_))
  refine aL (fun (j:Nat)=>j≤xs.length∧∀ i,i<j→xs[i]?=ys[i]?) (fun (j:Nat)=>[(5,.int .i64 j)]) [(0,_),(1,_)] (fun (j:Nat)=>_) (fun (j:Nat)=>xs.length-j) 0 ⟨by omega,fun i hi=>by omega⟩ aH aH aP ?_
  rintro j ⟨hj,EB⟩
  refine ah fun _ cj=>?_;refine cR fun _ ck=>?_;refine oM (oM ?_);refine oS sC ?_;refine oS (aF rfl rfl) ?_;refine oZ ck ?_;refine cx rfl (fun cH=>?_) (fun cH=>?_)
  ·obtain⟨x,qQ⟩:∃ x,xs[j]?=some x:=gE
   obtain⟨y,pn⟩:∃ y,ys[j]?=some y:=gE
   refine ax (xZ cj (ah fun _ cQ=>?_));refine ai (ah fun _ bw=>?_);refine aK ([]) (fun i=>false) ?_;refine iV 0 rfl (by exact HSub.nil) sM ?_;refine iV 1 rfl (by exact HSub.nil) sM ?_;refine iV 2 rfl (by exact HSub.nil) (au rfl rfl gk (by omega)) ?_;refine iV 3 rfl (by exact HSub.nil) (aD rfl ((cq.bj hx).gx j qQ (by omega)) (by rfl)) ?_;refine iV 4 rfl (by exact HSub.nil) sM ?_;refine iV 5 rfl (by exact HSub.nil) sM ?_;refine iV 6 rfl (by exact HSub.nil) (au rfl rfl tW (by omega)) ?_;refine iV 7 rfl (by exact HSub.nil) (aD rfl ((cq.bj hy).gx j pn (by omega)) (by rfl)) ?_;refine iV 8 rfl (by exact HSub.nil) (uP rfl rfl) ?_;refine eZ bw ?_;refine Yi rfl (fun dM=>?_) (fun dM=>?_)
   ·refine cR fun _ bF=>?_;refine oA (oZ bF (aA ?_));refine aw (aj (aj (aw (aj (?_)))))
    exact xR rfl rfl ((congrArg Value.bool (decide_eq_false (by intro e;subst e;rw[qQ] at pn;cases pn;exact dM rfl)).symm))
   ·refine ax (aq (xZ cQ (ae (oM ?_))));refine oS sD (oA (ak ?_));exact xI (j+1) ⟨by omega,fun i hi=>by rcases Nat.lt_or_ge i j with h|h;exact EB i h;rw[show i=j by omega,qQ,pn,dM]⟩
  ·refine ay ?_;refine ad (ad (ag (xZ bT (cR fun _ bD=>?_))));refine oA (oZ bD (aA ?_));refine ?_;exact xR rfl rfl ((congrArg Value.bool (decide_eq_true (mL (by omega) fun i hi=>EB i (by omega))).symm))
theorem zt (a:Option Addr)(c:Nat)(xs:List Nd)(hn:xs.length≤2147483647):HL.Fn Tryz.prog 7 [.slice a xs.length c] (fun w=>Rd En w (.slice a xs.length c) xs) [] (fun v S'=>∃ a',v = .slice a' xs.length (xs.length+64)∧aG En 9 42 (.slice a' (yx Fw xs).length (xs.length+64)) (yx Fw xs) S'):=by
 refine aW Tryz.func7 rfl rfl rfl fun w0 hw=>?_
 have gk:=hw.sl
 have Cf:=gk.le
 have TL:=tG Fw xs
 refine cR fun _ bI=>?_;refine oA (oZ bI (cR fun _ bJ=>?_));refine oM ?_;refine oS sC ?_;refine oS sD ?_;refine lD (E:=En) (zx:=zN) (n:=xs.length+64) rfl rfl (by rw[gI];rfl) (by omega) (by omega) rfl fun b8 S8 hS8=>?_;refine oA (oZ bJ (ah fun _ bK=>?_));refine cR fun _ bU=>?_;refine oA (oZ bU (ai ?_));refine dt (fun (j:Nat)(l:List Nd)(S:Hp)=>j≤xs.length+64∧Af.pJ (zu Fw xs) (xs.length+64) j l∧aG En 9 42 (.slice (some ⟨b8,0,none⟩) (xs.length+64) (xs.length+64)) l S) (fun (j:Nat)(l:List Nd)(S:Hp)=>[(4,.int .i64 j)]) [(0,_),(2,_),(3,_)] (fun (j:Nat)(l:List Nd)(S:Hp)=>S) (fun (j:Nat)(l:List Nd)(S:Hp)=>xs.length+64-j) 0 _ _ ⟨by omega,.zero List.length_replicate,hS8⟩ aH aH aP ?_
 rintro j l S ⟨hj,hl,hS⟩
 have dr:=hS.sl
 have o9:=hl.len
 rw[o9] at dr
 refine ah fun _ bT=>?_;refine cR fun _ bZ=>?_;refine oM (oM ?_);refine oS sC ?_;refine oS (aF rfl rfl) ?_;refine oZ bZ ?_;refine cx rfl (fun cH=>?_) (fun cH=>?_)
 ·refine ax (xZ bT (ah fun _ cj=>?_));refine ai (cR fun _ ck=>?_);refine oM (oM ?_);refine oS sC ?_;refine oS (aF rfl rfl) ?_;refine oZ ck ?_;refine cx rfl (fun ER=>?_) (fun ER=>?_)
  ·obtain⟨x,qQ⟩:∃ x,xs[j]?=some x:=gE
   refine ae (oM (oM (oM (oM ?_))));refine oS (au rfl rfl gk (by omega)) ?_;refine oS (aD rfl ((cq.bj hw).gx j qQ (by omega)) (by rfl)) ?_;refine oS (au rfl rfl dr (by omega)) ?_;refine lX j x hS bh rfl rfl (by omega) (by rw[Int.toNat_natCast]) fun S' wH=>?_;refine ak (aq (xZ cj (ae (oM ?_))));refine oS sD (oA (ak ?_));exact xI (j+1,_,_) ⟨by omega,hl.step (by omega) (KK qQ),wH⟩
  ·refine ae (oM (oM (oM ?_)));refine ar (KL 9 j (by omega) (by omega)) rfl rfl rfl (fun _ _=>trivial) (fun Rv oh=>?_);subst oh
   refine oS (ab (v':=.agg (En (Fw j)).toArray) (bG (cs:=[_,_,_,_,_,_,_,_,_]) (vs:=[_,_]) rfl rfl (.cons rfl rfl rfl rfl rfl (.cons rfl rfl rfl rfl rfl (.nil)))) (by rw[Qz])) ?_;refine oS (au rfl rfl dr (by omega)) ?_;refine lX j (Fw j) hS bh rfl rfl (by omega) (by rw[Int.toNat_natCast]) fun S' wH=>?_;refine ak (aq (xZ cj (ae (oM ?_))));refine oS sD (oA (ak ?_));exact xI (j+1,_,_) ⟨by omega,hl.step (by omega) (Fx (d:=Fw) (by omega)),wH⟩
 ·have hd:=KM hl (by omega)
  subst hd;refine ay ?_;refine ad (ad (ag (xZ bK (cR fun _ cQ=>?_))));refine oM (oM ?_);refine oS sC ?_;refine oS (l9 rfl rfl (by omega)) ?_;refine oA (oZ cQ (aA ?_));refine ?_;exact xR rfl rfl (⟨_,rfl,by rw[TL];exact hS⟩)
theorem wN (a:Option Addr)(c:Nat)(xs:List Nd)(hn:xs.length≤2147483647):HL.Fn Tryz.prog 12 [.slice a xs.length c] (fun w=>Rd En w (.slice a (yx Fw xs).length c) (yx Fw xs)) [] (fun v _=>v = .bool true):=by
 refine aW Tryz.func12 rfl rfl rfl fun w0 hw=>?_
 have TL:=tG Fw xs
 have gk:=hw.sl
 have hc:=gk.cap
 refine cR fun _ bI=>?_;refine oA (oZ bI (cR fun _ bJ=>?_));refine oM (oM ?_);refine oS sC ?_;refine oS sD ?_;refine oS (l9 rfl rfl (by omega)) ?_
 rw[show ((xs.length:Int)+64).toNat=(yx Fw xs).length from by rw[tG];omega]
 refine oA (oZ bJ (ah fun _ bK=>?_));refine cR fun _ bU=>?_;refine oM ?_;refine oS sC (oA (oZ bU (ai ?_)))
 refine aL (fun (j:Nat)=>xs.length≤j∧j≤xs.length+64) (fun (j:Nat)=>[(4,.int .i64 j)]) [(3,_)] (fun (j:Nat)=>_) (fun (j:Nat)=>xs.length+64-j) xs.length ⟨by omega,by omega⟩ aH aH aP ?_
 rintro j ⟨hj1,hj2⟩
 refine ah fun _ bT=>?_;refine cR fun _ bZ=>?_;refine oM (oM ?_);refine oS sC ?_;refine oS (aF rfl rfl) ?_;refine oZ bZ ?_;refine cx rfl (fun cH=>?_) (fun cH=>?_)
 ·have qQ:=Hl (d:=Fw) (xs:=xs) (i:=j) (by omega) (by omega)
  refine ax (xZ bT (ah fun _ cj=>?_));refine ai (ah fun _ ck=>?_);refine aK ([]) (fun i=>false) ?_;refine iV 0 rfl (by exact HSub.nil) sM ?_;refine iV 1 rfl (by exact HSub.nil) sM ?_;refine iV 2 rfl (by exact HSub.nil) (au rfl rfl gk (by omega)) ?_;refine iV 3 rfl (by exact HSub.nil) (aD rfl ((cq.bj hw).gx j qQ (by omega)) (by rfl)) ?_;refine iV 4 rfl (by exact HSub.nil) sM ?_;refine eO 5 rfl ?_;refine ar (KL 9 j (by omega) (by omega)) rfl rfl rfl (fun _ _=>trivial) (fun WH ue=>?_);subst ue
  refine ak ?_;refine yy (by exact HSub.nil) ?_;refine iV 6 rfl (by exact HSub.nil) (ab (v':=.agg (En (Fw j)).toArray) (bG (cs:=[_,_,_,_,_,_,_,_,_]) (vs:=[_,_]) rfl rfl (.cons rfl rfl rfl rfl rfl (.cons rfl rfl rfl rfl rfl (.nil)))) (by rw[Qz])) ?_;refine iV 7 rfl (by exact HSub.nil) (ab (v':=.bool true) (gK rfl rfl) (by rw[decide_eq_true rfl])) ?_;refine iV 8 rfl (by exact HSub.nil) (aT rfl) ?_;refine eZ ck ?_;refine cF (ax (aq (xZ cj (ae (oM ?_)))));refine oS sD (oA (ak ?_));exact xI (j+1) ⟨by omega,by omega⟩
 ·refine ay ?_;refine ad (ad (ag (xZ bK (cR fun _ cQ=>?_))));refine oA (oZ cQ (aA ?_));refine ?_;exact xR rfl rfl (rfl)
theorem zw (a:Option Addr)(c:Nat)(xs:List Nd)(hn:xs.length≤2147483648):HL.Fn Tryz.prog 13 [.slice a xs.length c] (fun w=>Rd En w (.slice a xs.length c) xs) [] (fun v S'=>∃ a' c',v = .slice a' xs.length c'∧aG En 9 42 (.slice a' xs.length c') xs S'):=by
 refine aW Tryz.func13 rfl rfl rfl fun w0 hw=>?_;refine cR fun _ bI=>?_;refine oA (oZ bI (cR fun _ bJ=>?_));refine oA (oZ bJ (cR fun _ bK=>?_));refine oM (oM ?_);refine bX (aG.nil:aG En 9 42 (.slice none 0 0) [] []) (cq.bj hw) rfl rfl rfl rfl (by simp;omega) (by simp;omega) rfl bh fun a6 c6 S6 hS6=>?_
 rw[List.nil_append] at hS6
 rw[List.nil_append]
 refine oA (oZ bK (aA ?_));refine ?_;refine cM (Sub.refl _) (H':=S6) aP ?_;exact xR rfl rfl (⟨_,_,rfl,hS6⟩)
theorem Du (ra:Option Addr)(rc:Nat)(re:List Nd)(ey:∀ x∈re,-128≤x.op∧x.op<128):HL.Fn Tryz.prog 5 [.slice ra re.length rc] (fun w=>Rd En w (.slice ra re.length rc) re) [] (fun v _=>∃ b,v = .bool b∧(b=false→re.length≤2147483647)):=by
 refine aW Tryz.func5 rfl rfl rfl fun w0 hw=>?_;refine cR fun _ bI=>?_;refine oA (oZ bI (cR fun _ bJ=>?_));refine oM ?_;refine oS sC ?_;refine ar (IJ re.length) rfl rfl rfl (fun _ _=>trivial) (fun v5 Rt=>?_);subst Rt
 cases hlg:decide ((re.length:Int)>2147483647)
 ·have TL:=of_decide_eq_false hlg
  refine oM ?_;refine oY (oM ?_);refine oY ?_;refine ar (Hm ra rc re ey) rfl rfl rfl (fun w st=>(cq.bj hw).out w st) (fun v8 ⟨b8,VT⟩=>?_);subst VT
  refine oS sP (oA (oZ bJ (aA ?_)));refine ?_;exact xR rfl rfl (⟨_,rfl,fun _=>by omega⟩)
 ·refine oM ?_;refine oN ?_;refine oN ?_;refine oS sT (oA (oZ bJ (aA ?_)));refine ?_;exact xR rfl rfl (⟨true,rfl,fun h=>by cases h⟩)
end Go.Proofs.YtmompllplidphaaGreatDoor
