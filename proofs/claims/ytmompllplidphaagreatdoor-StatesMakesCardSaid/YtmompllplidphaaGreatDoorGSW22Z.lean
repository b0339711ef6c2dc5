/- Part of the proofs over this seat: see the text that holds the theorem. Conditions: each theorem bears its own. -/
import Derived.Test.YtmompllplidphaaGreatDoorHTZ
import Derived.Test.YtmompllplidphaaGreatDoorSM35Z
import Derived.Test.YtmompllplidphaaGreatDoorGRW7Z
import Derived.Test.YtmompllplidphaaGreatDoorSM10Z
import Derived.Test.YtmompllplidphaaGreatDoorGSW14Z
import Derived.Test.YtmompllplidphaaGreatDoorMC9Z
import Derived.Test.YtmompllplidphaaGreatDoorHlB
import Derived.Test.YtmompllplidphaaGreatDoorGSW10Z
import Derived.Test.YtmompllplidphaaGreatDoorRows
import Derived.ProofKit
import Derived.LaidMore
import Derived.Stop.Joined
import Derived.Lib.LaidTab
namespace Go.Proofs.YtmompllplidphaaGreatDoor
open Go Go.HL Go.Proofs Go.HL.Kl Go.HL.Kl.Mc Go.HL.cm
def Lu (re:List Nd)(v:Value)(S:Hp):Prop:=∃ (d:Df)(e:Int)(na:Option Addr)(nc:Nat)(rows:List (Sl Int))(ea:Option Addr)(ec:Nat)(aa:Option Addr)(ac:Nat)(Sn Sq Se Sa:Hp),Gw re d e∧v = .tuple #[.agg [.slice aa d.atoms.length ac,.slice na rows.length nc,.slice ea d.ends.length ec].toArray,.int .i64 e]∧S=Sn++(Sq++(Se++Sa))∧aG cX 1 36 (.slice na rows.length nc) rows Sn∧cG Ei 1 3 rows d.next Sq∧d.next=rows.map Sl.xs∧aG fR 1 4 (.slice ea d.ends.length ec) d.ends Se∧aG Ec 4 39 (.slice aa d.atoms.length ac) d.atoms Sa
theorem xo.made {re:List Nd}{v:Value}{S:Hp}(h:xo re v S):∃ S2,HSub S S2∧Lu re v S2:=by
 cases h with
 | err he hv hs=>exact⟨[],HSub.nil,⟨[],[],[]⟩,_,none,0,[],none,0,none,0,[],[],[],[],.inr ⟨he,hs,rfl⟩,hv,rfl,.nil,.nil,rfl,.nil,.nil⟩
 | ok hd hv ho=>
   obtain⟨na,nc,rows,ea,ec,aa,ac,Sn,Sq,Se,Sa,rfl,rfl,h⟩:=ho
   exact⟨_,HSub.refl _,_,0,na,nc,rows,ea,ec,aa,ac,Sn,Sq,Se,Sa,.inl ⟨hd,rfl⟩,hv,rfl,h⟩
theorem xQ (ra:Option Addr)(rc:Nat)(re:List Nd)(ey:∀ x∈re,-128≤x.op∧x.op<128){n:Nat}(hn:re.length=n):HL.Fn Tryz.prog 8 [.slice ra n rc] (fun w=>Rd En w (.slice ra n rc) re) [] (Lu re):=by
 subst hn;exact HL.Fn.sub (Jx ra rc re ey) fun _ _ h=>h.made
theorem vD (ra:Option Addr)(rc:Nat)(re:List Nd)(ey:∀ x∈re,-128≤x.op∧x.op<128){n:Nat}(hn:re.length=n):HL.Fn Tryz.prog 9 [.slice ra n rc] (fun W=>Rd En W (.slice ra n rc) re∧Tb [] W) [] (Lu re):=by
 subst hn;exact HL.Fn.sub (zI ra rc re ey) fun _ _ h=>h.made
theorem wS (a:Option Addr)(c:Nat)(xs:List Nd){n:Nat}(hl:xs.length=n)(hn:n≤2147483648):HL.Fn Tryz.prog 13 [.slice a n c] (fun w=>Rd En w (.slice a n c) xs) [] (fun v S'=>∃ a' c',v = .slice a' n c'∧aG En 9 42 (.slice a' n c') xs S'):=by
 subst hl;exact zw a c xs hn
theorem DM (b:Nat)(aa:Option Addr)(ac:Nat)(atoms:List Kl.Cl)(na:Option Addr)(nc:Nat)(rows:List (Sl Int))(ea:Option Addr)(ec:Nat)(ends:List Bool)(Sr:Hp)(hr:lG cX (.slice na rows.length nc) rows Sr)(dr:eA (.slice na rows.length nc) rows.length):HL.Fn Tryz.prog 14 [.pointer (some ⟨b,0,none⟩),.agg [.slice aa atoms.length ac,.slice na rows.length nc,.slice ea ends.length ec].toArray] (fun _=>True) ((b,.cells (List.replicate 19 (Value.slice none 0 0)).toArray 63 (0,0))::Sr) (fun _ S'=>∃ Sb nS i,S'=Sb++Sr∧eC [] rows nS i∧wq b nS [⟨ea,ec,ends⟩] [⟨aa,ac,atoms⟩] [] [⟨na,nc,rows⟩] Sb):=
 tX (wq.zero b) aa ac atoms na nc rows ea ec ends Sr hr dr (by simp) (by simp) (by simp) (by simp)
set_option maxHeartbeats 8000000 in
theorem vE (ra:Option Addr)(rc:Nat)(re:List Nd)(ey:∀ x∈re,-128≤x.op∧x.op<128):HL.Fn Tryz.prog 3 [.slice ra re.length rc] (fun W=>Rd En W (.slice ra re.length rc) re∧Tb [] W) [] (fun v _=>v = .bool true):=by
 refine aW Tryz.func3 rfl rfl rfl fun w0 hw=>?_;refine cR fun _ bI=>?_;refine oA (oZ bI (ah fun _ bJ=>?_));refine cR fun _ bK=>?_;refine oM ?_;refine ar (Du ra rc re ey) rfl rfl rfl (fun w st=>(cq.bj hw.1).out w st) (fun v19 ⟨b19,R0,hlg⟩=>?_);subst R0
 cases b19
 ·have hn:=hlg rfl
  refine oZ bK ?_;refine eL bJ (cR fun _ bU=>?_);refine ar (Lv) rfl rfl rfl (fun w st=>dI hw.2 st HSub.nil) (fun v20 Cr=>?_);subst Cr
  refine oA (oZ bU (cR fun _ bT=>?_));refine oM ?_;refine aX (zt ra rc re hn) rfl rfl rfl (by exact .nil) (fun w st=>(cq.bj hw.1).out w st) (fun v22 SN ⟨aN,qO,hNf⟩=>?_);subst qO
  have hN:=hNf.pre re.length (by rw[tG];omega)
  rw[Lw] at hN
  have hNs:=hN.sl
  refine oA (oZ bT (cR fun _ bZ=>?_));refine oM ?_;refine aX (xQ ra rc re ey rfl) rfl rfl rfl (by exact .nil) (fun w st=>(cq.bj hw.1).out w st) (fun v25 S25 hW1=>?_)
  obtain⟨d,e1,lJ,lK,cW,ko,kp,lH,lI,Zx,Zy,Oh,Zz,ZA,rfl,rfl,Wc,We,oW,JK,Wf⟩:=hW1
  refine oM ?_;refine oS sE ?_;refine oS sE ?_;refine aB rfl rfl fun b5=>?_;refine bf rfl rfl bY aS aS fE ?_;refine oA (oZ bZ (cR fun _ cj=>?_));refine oM ?_;refine aX (vD aN (re.length+64) re ey rfl) rfl rfl rfl (by exact .nil) (fun w st=>⟨(hN.aU aM).out w st,dI hw.2 st HSub.nil⟩) (fun v30 S30 hW2=>?_)
  obtain⟨d2,e2,iJ,iK,cu,fi,fj,j3,j4,MR,tn,ny,ZB,Em,rfl,rfl,EP,hQ2,nU,Qn,Lx⟩:=hW2
  obtain⟨rfl,rfl⟩:=ZA.uniq Em
  refine oM ?_;refine oS sE ?_;refine oS sE ?_;refine aB rfl rfl fun b7=>?_;refine bf rfl rfl bY aS aS fE ?_;refine oA (oZ cj (cR fun _ ck=>?_));refine oM ?_;refine aX (vD aN (re.length+64) re ey rfl) rfl rfl rfl (by exact .nil) (fun w st=>⟨(hN.aU aM).out w st,dI hw.2 st HSub.nil⟩) (fun v35 S35 hW3=>?_)
  obtain⟨d3,e3,Ut,Uu,sb,sK,sO,Uv,Uw,Ux,ZC,tA,Wg,hM3,rfl,rfl,hR3,hQ3,hx3,hE3,QQ⟩:=hW3
  obtain⟨rfl,rfl⟩:=ZA.uniq hM3
  refine oM ?_;refine oS sE ?_;refine oS sE ?_;refine aB rfl rfl fun b9=>?_;refine bf rfl rfl bY aS aS fE ?_;refine oA (oZ ck (ah fun _ cQ=>?_));refine cR fun _ bw=>?_;refine oM ?_;refine oS (aT rfl) ?_;refine oM ?_;refine oY (oM ?_);refine oY (oM ?_);refine oY ?_;refine oS (ab (v':=.bool false) (eY rfl rfl) (congrArg Value.bool (decide_eq_false (fun h=>h rfl)))) ?_;refine oS sP (oM ?_);refine oY (oM ?_);refine oY (oM ?_);refine oY ?_;refine oS (ab (v':=.bool false) (eY rfl rfl) (congrArg Value.bool (decide_eq_false (fun h=>h rfl)))) ?_;refine oS sP (oM ?_);refine oY ?_;refine oS (aD rfl (aI.aO (.own aV)) aS) ?_;refine oY ?_;refine oS (aD rfl (aI.aO (.own aV)) aS) ?_;refine oY ?_;refine ar (uq d j3 j4 iJ iK cu fi fj nU d lH lI lJ lK cW ko kp oW) rfl rfl rfl (fun w st=>⟨Iq.Nf EP hQ2 nU Qn Lx aM aM aM aM st,Iq.Nf Wc We oW JK Wf aM aM aM aM st⟩) (fun v53 Nz=>?_)
  rw[decide_eq_true rfl] at Nz
  subst Nz;refine oY ?_;refine oS (aT rfl) ?_;refine oS sP (oM ?_);refine oY (oM ?_);refine oY (oM ?_);refine oY ?_;refine ar (Dt aN ra (re.length+64) rc re re) rfl rfl rfl (fun w st=>⟨(hN.aU aM).out w st,(cq.bj hw.1).out w st⟩) (fun v59 Ga=>?_)
  rw[decide_eq_true rfl] at Ga
  subst Ga;refine oY ?_;refine oS (aT rfl) ?_;refine oS sP (oM ?_);refine oY (oM ?_);refine oY ?_;refine ar (wN aN (re.length+64) re hn) rfl rfl rfl (fun w st=>(hNf.aU aM).out w st) (fun v64 Uy=>?_);subst Uy
  refine oY ?_;refine oS (aT rfl) ?_;refine oS sP (oZ bw ?_);refine eL cQ (ah fun _ bF=>?_);refine cR fun _ bD=>?_;refine oA (oZ bD (ai ?_));refine lS (fun (i:Nat)(rl:List (Sl Int))(Uz:Hp)(dO:List (List Int))(Wh:Hp)=>i≤cu.length∧(∀ j,i≤j→rl[j]?=cu[j]?)∧aG cX 1 36 (.slice iJ cu.length iK) rl Uz∧cG Ei 1 3 cu dO Wh) (fun (i:Nat)(rl:List (Sl Int))(Uz:Hp)(dO:List (List Int))(Wh:Hp)=>[(11,.int .i64 i)]) [(2,_),(4,_),(5,_),(6,_),(7,_),(8,_),(9,_)] (fun (i:Nat)(rl:List (Sl Int))(Uz:Hp)(dO:List (List Int))(Wh:Hp)=>(b5,.cells [.slice lH d.atoms.length lI,.slice lJ cW.length lK,.slice ko d.ends.length kp].toArray 30 (0,0))::(b7,.cells [.slice j3 d.atoms.length j4,.slice iJ cu.length iK,.slice fi d.ends.length fj].toArray 30 (0,0))::(b9,.cells [.slice Uv d.atoms.length Uw,.slice Ut sb.length Uu,.slice sK d.ends.length sO].toArray 30 (0,0))::(Uz++(Wh++(ny++(ZB++(SN++(Zx++(Zy++(Oh++(Zz++(Ux++(ZC++(tA++Wg))))))))))))) (fun (i:Nat)(rl:List (Sl Int))(Uz:Hp)(dO:List (List Int))(Wh:Hp)=>cu.length-i) 0 cu MR d.next tn ⟨by omega,fun j _=>rfl,EP,hQ2⟩ aH aH aP ?_
  rintro i rl Uz dO Wh ⟨hi,p5,ZD,hQA⟩
  have afs:=qj ZD
  have Ly:=ZD.sl
  rw[afs] at Ly
  have aoC:=Ly.le
  refine ah fun _ cb=>?_;refine cR fun _ bL=>?_;refine oM ?_;refine oS sF ?_;refine oS sL ?_;refine oS sC ?_
  by_cases cH:i<cu.length
  ·obtain⟨s,hs⟩:∃ z,cu[i]?=some z:=gE
   have F1:=(p5 i (Nat.le_refl _)).trans hs
   obtain⟨Ho,S1,Sk0,S2,qG,rfl,o6,q8⟩:=hQA.at hs
   refine oS (ab (v':=.bool true) (aF rfl rfl) (congrArg Value.bool (decide_eq_true (by omega)))) ?_;refine oZ bL ?_;refine gp cb (ah fun _ bQ=>?_);refine ai (ah fun _ cO=>?_);refine cR fun _ df=>?_;refine oA (oZ df (ai ?_));refine dt (fun (k:Nat)(l:List Int)(Sk:Hp)=>k≤s.xs.length∧aG Ei 1 3 s.v l Sk) (fun (k:Nat)(l:List Int)(Sk:Hp)=>[(12,.int .i64 k)]) [(2,_),(4,_),(5,_),(6,_),(7,_),(8,_),(9,_),(11,_),(67,_),(68,_),(69,_),(70,_),(71,_)] (fun (k:Nat)(l:List Int)(Sk:Hp)=>(b5,.cells [.slice lH d.atoms.length lI,.slice lJ cW.length lK,.slice ko d.ends.length kp].toArray 30 (0,0))::(b7,.cells [.slice j3 d.atoms.length j4,.slice iJ cu.length iK,.slice fi d.ends.length fj].toArray 30 (0,0))::(b9,.cells [.slice Uv d.atoms.length Uw,.slice Ut sb.length Uu,.slice sK d.ends.length sO].toArray 30 (0,0))::(Uz++(S1++(Sk++(S2++(ny++(ZB++(SN++(Zx++(Zy++(Oh++(Zz++(Ux++(ZC++(tA++Wg))))))))))))))) (fun (k:Nat)(l:List Int)(Sk:Hp)=>s.xs.length-k) 0 Ho Sk0 ⟨by omega,o6⟩ aH aH aP ?_
   rintro k l Sk ⟨hk,EF⟩
   have o9:=EF.uF
   have mE:=EF.sl
   rw[o9] at mE
   have aoE:=mE.le
   refine ah fun _ cZ=>?_;refine cR fun _ dq=>?_;refine oM ?_;refine oS sF ?_;refine oS sL (oM ?_);refine oS (au rfl rfl Ly (by omega)) ?_;refine oS (az rfl ((ZD.aU aM).ld (u:=.slice s.a s.xs.length s.c) i 0 F1 rfl (by decide) (by omega))) ?_;refine oS sC ?_
   by_cases Tx:k<s.xs.length
   ·refine oS (ab (v':=.bool true) (aF rfl rfl) (congrArg Value.bool (decide_eq_true (by omega)))) ?_;refine oZ dq ?_;refine gp cZ (ah fun _ dG=>?_);refine ai (ae ?_);refine oS sF ?_;refine oS sL (oM ?_);refine oS (au rfl rfl Ly (by omega)) ?_;refine oS (az rfl ((ZD.aU aM).ld (u:=.slice s.a s.xs.length s.c) i 0 F1 rfl (by decide) (by omega))) ?_;refine oM ?_;refine oS (au rfl rfl mE (by omega)) ?_;refine dp k (-9) EF bh rfl rfl rfl (by omega) (by first|rfl|(rw[Int.toNat_natCast,Nat.mul_one];first|done|rfl)) fun S90 Td=>?_;refine ak (aq (xZ dG ?_))
    refine ae (oM ?_);refine oS sD (oA (ak ?_));exact xI (k+1,_,_) ⟨by omega,Td⟩
   ·refine oS (ab (v':=.bool false) (aF rfl rfl) (congrArg Value.bool (decide_eq_false (by omega)))) ?_;refine oZ dq ?_;refine cF ?_;refine ay ?_;refine ad (ad (ag (xZ cO (ae ?_))));refine oS sF ?_;refine oS sL (oM ?_);refine oS (au rfl rfl Ly (by omega)) ?_;refine dp i ⟨none,0,[]⟩ ZD bh rfl rfl rfl (by omega) (by omega) fun S94 UA=>?_;refine ak (aq (xZ bQ (ae (oM ?_))));refine oS sD (oA (ak ?_));exact av (cd (i+1,rl.set i ⟨none,0,[]⟩,S94,dO.set i l,S1++(Sk++S2)) ⟨by omega,fun j hj=>by rw[List.getElem?_set_ne (by omega)];exact p5 j (by omega),UA,q8 _ _ EF⟩ (by first|omega|(dsimp only;omega)) aH (by simp only[List.append_assoc];exact aP))
  ·refine oS (ab (v':=.bool false) (aF rfl rfl) (congrArg Value.bool (decide_eq_false (by omega)))) ?_;refine oZ bL ?_;refine cF ?_;refine ay ?_;refine ad (ad (ag (xZ bF (ah fun _ eb=>?_))));refine cR fun _ dL=>?_;refine oA (oZ dL (ai ?_));refine dt (fun (i:Nat)(e:List Bool)(UB:Hp)=>i≤d.ends.length∧aG fR 1 4 (.slice fi d.ends.length fj) e UB) (fun (i:Nat)(e:List Bool)(UB:Hp)=>[(13,.int .i64 i)]) [(2,_),(4,_),(5,_),(6,_),(7,_),(8,_),(9,_)] (fun (i:Nat)(e:List Bool)(UB:Hp)=>(b5,.cells [.slice lH d.atoms.length lI,.slice lJ cW.length lK,.slice ko d.ends.length kp].toArray 30 (0,0))::(b7,.cells [.slice j3 d.atoms.length j4,.slice iJ cu.length iK,.slice fi d.ends.length fj].toArray 30 (0,0))::(b9,.cells [.slice Uv d.atoms.length Uw,.slice Ut sb.length Uu,.slice sK d.ends.length sO].toArray 30 (0,0))::(UB++(ZB++(SN++(Zx++(Zy++(Oh++(Zz++(Ux++(ZC++(tA++Wg))))))))))) (fun (i:Nat)(e:List Bool)(UB:Hp)=>d.ends.length-i) 0 d.ends ny ⟨by omega,Qn⟩ aH aH aP ?_
   rintro i e UB ⟨hi,hEC⟩
   have kH:=qj hEC
   have B3:=hEC.sl
   rw[kH] at B3
   have aoF:=B3.le
   refine ah fun _ dR=>?_;refine cR fun _ dk=>?_;refine oM ?_;refine oS sF ?_;refine oS sL ?_;refine oS sC ?_
   by_cases cH:i<d.ends.length
   ·obtain⟨bb,Wi⟩:∃ z,e[i]?=some z:=gE
    refine oS (ab (v':=.bool true) (aF rfl rfl) (congrArg Value.bool (decide_eq_true (by omega)))) ?_;refine oZ dk ?_;refine gp dR (ah fun _ dE=>?_);refine ai ?_;refine aK ((b7,.cells [.slice j3 d.atoms.length j4,.slice iJ cu.length iK,.slice fi d.ends.length fj].toArray 30 (0,0))::UB) (fun i=>Nat.beq i 10) ?_;refine eP 0 rfl sF ?_;refine eK 1 rfl sL ?_;refine eP 2 rfl sM ?_;refine eP 3 rfl sF ?_;refine eK 4 rfl sL ?_;refine eP 5 rfl sM ?_;refine eP 6 rfl (au rfl rfl B3 (by omega)) ?_;refine eK 7 rfl (az rfl ((hEC.aU aM).ld i 0 Wi rfl (by decide) (by omega))) ?_;refine eP 8 rfl (aT rfl) ?_;refine eP 9 rfl (au rfl rfl B3 (by omega)) ?_;refine eO 10 rfl ?_;refine dp i (!bb) hEC bh rfl rfl rfl (by omega) (by omega) fun GN xq=>?_;refine ak ?_;refine cE rfl ?_;refine cw (by kernel_rfl) ?_;refine aq (xZ dE (ae (oM ?_)));refine oS sD (oA (ak ?_));exact xI (i+1,_,_) ⟨by omega,xq⟩
   ·refine oS (ab (v':=.bool false) (aF rfl rfl) (congrArg Value.bool (decide_eq_false (by omega)))) ?_;refine oZ dk ?_;refine cF ?_;refine ay ?_;refine ad (ad (ag (xZ eb (ah fun _ dS=>?_))));refine cR fun _ dW=>?_;refine oA (oZ dW (ai ?_));refine dt (fun (i:Nat)(a:List Kl.Cl)(Wj:Hp)=>i≤d.atoms.length∧aG Ec 4 39 (.slice j3 d.atoms.length j4) a Wj) (fun (i:Nat)(a:List Kl.Cl)(Wj:Hp)=>[(14,.int .i64 i)]) [(2,_),(4,_),(5,_),(6,_),(7,_),(8,_),(9,_)] (fun (i:Nat)(a:List Kl.Cl)(Wj:Hp)=>(b5,.cells [.slice lH d.atoms.length lI,.slice lJ cW.length lK,.slice ko d.ends.length kp].toArray 30 (0,0))::(b7,.cells [.slice j3 d.atoms.length j4,.slice iJ cu.length iK,.slice fi d.ends.length fj].toArray 30 (0,0))::(b9,.cells [.slice Uv d.atoms.length Uw,.slice Ut sb.length Uu,.slice sK d.ends.length sO].toArray 30 (0,0))::(Wj++(SN++(Zx++(Zy++(Oh++(Zz++(Ux++(ZC++(tA++Wg)))))))))) (fun (i:Nat)(a:List Kl.Cl)(Wj:Hp)=>d.atoms.length-i) 0 d.atoms ZB ⟨by omega,Lx⟩ aH aH aP ?_
    rintro i a Wj ⟨hi,hAD⟩
    have wo:=qj hAD
    have Ik:=hAD.sl
    rw[wo] at Ik
    have aoG:=Ik.le
    refine ah fun _ ee=>?_;refine cR fun _ eh=>?_;refine oM ?_;refine oS sF ?_;refine oS sL ?_;refine oS sC ?_
    by_cases cH:i<d.atoms.length
    ·refine oS (ab (v':=.bool true) (aF rfl rfl) (congrArg Value.bool (decide_eq_true (by omega)))) ?_;refine oZ eh ?_;refine gp ee (ah fun _ eD=>?_);refine ai (ae ?_);refine oS sF ?_;refine oS sL (oM ?_);refine oS (ab (v':=.agg (Ec k7).toArray) (dz (cs:=[_,_,_,_]) (vs:=[_]) rfl rfl (.cons rfl rfl rfl rfl .nil)) (by rw[Yj])) ?_;refine oS (au rfl rfl Ik (by omega)) ?_;refine lX i k7 hAD bh rfl rfl (by omega) (by omega) fun aoH ZE=>?_;refine ak (aq (xZ eD (ae (oM ?_))));refine oS sD (oA (ak ?_));exact xI (i+1,_,_) ⟨by omega,ZE⟩
    ·refine oS (ab (v':=.bool false) (aF rfl rfl) (congrArg Value.bool (decide_eq_false (by omega)))) ?_;refine oZ eh ?_;refine cF ?_;refine ay ?_;refine ad (ad (ag (xZ dS (ah fun _ dN=>?_))));refine cR fun _ e6=>?_;refine oS (aD rfl (aI.aO (.own aV)) aS) ?_;refine oS (aD rfl (aI.aO (.own aV)) aS) ?_;refine ar (uq d Uv Uw Ut Uu sb sK sO hx3 d lH lI lJ lK cW ko kp oW) rfl rfl rfl (fun w st=>⟨Iq.Nf hR3 hQ3 hx3 hE3 QQ aM aM aM aM st,Iq.Nf Wc We oW JK Wf aM aM aM aM st⟩) (fun afu FK=>?_)
     rw[decide_eq_true rfl] at FK
     subst FK;refine oS (aT rfl) ?_;refine oZ e6 ?_;refine eL dN (ah fun _ du=>?_);refine cR fun _ fF=>?_;refine oA (oZ fF (ai ?_));refine dt (fun (i:Nat)(nl:List Nd)(SE:Hp)=>i≤re.length∧aG En 9 42 (.slice aN re.length (re.length+64)) nl SE∧∀ y∈nl,-128≤y.op∧y.op<128) (fun (i:Nat)(nl:List Nd)(SE:Hp)=>[(15,.int .i64 i)]) [(2,_),(4,_),(5,_),(6,_),(8,_),(9,_)] (fun (i:Nat)(nl:List Nd)(SE:Hp)=>(b5,.cells [.slice lH d.atoms.length lI,.slice lJ cW.length lK,.slice ko d.ends.length kp].toArray 30 (0,0))::(b9,.cells [.slice Uv d.atoms.length Uw,.slice Ut sb.length Uu,.slice sK d.ends.length sO].toArray 30 (0,0))::(SE++(Ux++(ZC++(tA++Wg))))) (fun (i:Nat)(nl:List Nd)(SE:Hp)=>re.length-i) 0 re SN ⟨by omega,hN,ey⟩ aH aH aP ?_
     rintro i nl SE ⟨hi,QR,wa⟩
     have wY:=qj QR
     refine ah fun _ fx=>?_;refine cR fun _ fN=>?_;refine oM (oM ?_);refine oS sC ?_
     by_cases cH:i<re.length
     ·obtain⟨x,ie⟩:∃ z,nl[i]?=some z:=gE
      refine oS (ab (v':=.bool true) (aF rfl rfl) (congrArg Value.bool (decide_eq_true (by omega)))) ?_;refine oZ fN ?_;refine gp fx (ah fun _ gh=>?_);refine ai (cR fun _ fZ=>?_);refine oM (oM ?_);refine oS (au rfl rfl hNs (by omega)) ?_;refine oS sF ?_;refine oS (az rfl ((QR.aU aM).ld i 0 ie rfl (by decide) (by omega))) ?_
      by_cases ZF:x.op=1
      ·refine oS (ab (v':=.bool true) (bO rfl rfl) (congrArg Value.bool (decide_eq_true ZF))) ?_;refine oZ fZ ?_;refine cT ?_;refine aK (SE) (fun i=>Nat.beq i 12) ?_;refine eP 0 rfl sM ?_;refine eP 1 rfl sM ?_;refine eP 2 rfl sM ?_;refine eP 3 rfl sM ?_;refine eP 4 rfl (au rfl rfl hNs (by omega)) ?_;refine eP 5 rfl sF ?_;refine eP 6 rfl (aQ rfl rfl (by omega)) ?_;refine eK 7 rfl (az rfl ((QR.aU aM).ld i 2 ie rfl (by decide) (by omega))) ?_;refine eP 8 rfl (ab (v':=Ew (wd x.set 1 ^^^ 6#64)) (Yh rfl rfl) (TN _)) ?_;refine eP 9 rfl (au rfl rfl hNs (by omega)) ?_;refine eP 10 rfl sF ?_;refine eP 11 rfl (aQ rfl rfl (by omega)) ?_;refine eO 12 rfl ?_;refine Lt (i:=i) (off:=2) (cs:=[Ew (wd x.set 1 ^^^ 6#64)]) (xrN x) QR bh rfl rfl rfl rfl (by omega) (by omega) (by simp) (fun y hy=>by rw[ie] at hy;obtain rfl:=Option.some.inj hy;exact WT _) (fun v hv=>by rw[List.mem_singleton.1 hv];rfl) fun Xg Jv=>?_;refine ak ?_;refine cE rfl ?_;refine cw (by kernel_rfl) ?_;refine aq (xZ gh (ae (oM ?_)));refine oS sD (oA (ak ?_));exact xI (i+1,nl.set i (xrN x),_) ⟨by omega,Jv,NQ wa ie⟩
      ·refine oS (ab (v':=.bool false) (bO rfl rfl) (congrArg Value.bool (decide_eq_false ZF))) ?_;refine oZ fZ ?_;refine cF (ax (aq (xZ gh (ae (oM ?_)))));refine oS sD (oA (ak ?_));exact xI (i+1,nl,SE) ⟨by omega,QR,wa⟩
     ·refine oS (ab (v':=.bool false) (aF rfl rfl) (congrArg Value.bool (decide_eq_false (by omega)))) ?_;refine oZ fN ?_;refine cF ?_;refine ay ?_;refine ad (ad (ag (xZ du (cR fun _ iW=>?_))));refine oM ?_;refine aX (wS aN (re.length+64) nl wY (by omega)) rfl rfl rfl (by exact .nil) (fun w st=>(QR.aU aM).out w st) (fun aoI aoJ ⟨aC,cC,ZG,hC⟩=>?_);subst ZG
      refine aX (xQ aC cC nl wa wY) rfl rfl rfl (by exact .nil) (fun w st=>(hC.aU aM).out w st) (fun aoK aoL hW4=>?_)
      obtain⟨d4,e4,na4,nc4,ZH,ea4,ec4,aa4,ac4,Sn4,Sq4,Se4,Sa4,hM4,rfl,rfl,hR4,hQ4,P7,hE4,hA4⟩:=hW4
      refine oM ?_;refine oS sE ?_;refine oS sE ?_;refine bf rfl rfl bY aS aS fE ?_;refine oA (oZ iW (cR fun _ gA=>?_));refine oM ?_;refine aX (vD aN (re.length+64) nl wa wY) rfl rfl rfl (by exact .nil) (fun w st=>⟨(QR.aU aM).out w st,dI hw.2 st HSub.nil⟩) (fun aoW aoX hW5=>?_)
      obtain⟨d5,e5,na5,nc5,Lz,ea5,ec5,aa5,ac5,Sn5,Sq5,Se5,Sa5,hM5,rfl,rfl,hR5,hQ5,hx5,hE5,QE⟩:=hW5
      obtain⟨rfl,rfl⟩:=hM4.uniq hM5
      refine oM ?_;refine oS sE ?_;refine oS sE ?_;refine aB rfl rfl fun s8=>?_;refine bf rfl rfl bY aS aS fE ?_;refine oA (oZ gA (ah fun _ iX=>?_));refine cR fun _ jW=>?_;refine oM (oM ?_);refine oS (ab (v':=.bool false) (eY rfl rfl) (congrArg Value.bool (decide_eq_false (fun h=>h rfl)))) ?_;refine oM ?_;refine oY ?_;refine oS (aD rfl (aI.aO (.own aV)) aS) ?_;refine oY ?_;refine oS (aD rfl (aI.aO (.own aV)) aS) ?_;refine oY ?_;refine ar (uq d4 aa5 ac5 na5 nc5 Lz ea5 ec5 hx5 d4 aa4 ac4 na4 nc4 ZH ea4 ec4 P7) rfl rfl rfl (fun w st=>⟨Iq.Nf hR5 hQ5 hx5 hE5 QE aM aM aM aM st,Iq.Nf hR4 hQ4 P7 hE4 hA4 aM aM aM aM st⟩) (fun ao2 QS=>?_)
      rw[decide_eq_true rfl] at QS
      subst QS;refine oY ?_;refine oS (aT rfl) ?_;refine oS sP (oZ jW ?_);refine eL iX (cR fun _ kT=>?_);refine oS (ab (v':=.agg (List.replicate 19 (Value.slice none 0 0)).toArray) (bG (cs:=[_,_,_,_,_,_,_,_,_,_,_,_,_,_,_,_,_,_,_]) (vs:=[]) rfl rfl .nil) rfl) ?_;refine cB rfl rfl rfl fun afw=>?_;refine oA (oZ kT (cR fun _ nL=>?_));refine oM ?_;refine oS (aD rfl (aI.aO (.own aV)) aS) ?_;refine aX (DM afw Uv Uw d.atoms Ut Uu sb sK sO d.ends Ux hR3.rds hR3.sl) rfl rfl rfl ((aJ.bR bh bh)) (fun _ _=>trivial) (fun ao3 ao4 ⟨Sb2,il2,i2,ZI,UC,hW2⟩=>?_)
      subst ZI;refine oZ nL (cR fun _ kU=>?_);refine oM ?_;refine oS (aD rfl (aI.aO (.own aV)) aS) ?_;refine aX (tX hW2 aa5 ac5 d4.atoms na5 nc5 Lz ea5 ec5 d4.ends Sn5 hR5.rds hR5.sl UC.le (by simp) (by simp) (by simp)) rfl rfl rfl ((aJ.cy bh bh)) (fun _ _=>trivial) (fun OW ao5 ⟨Sb3,il3,i3,ZJ,UD,hW3⟩=>?_);subst ZJ
      refine oZ kU (cR fun _ kV=>?_);refine oM (oM ?_);refine aX (yA hW3 ⟨aN,re.length+64,nl⟩ (by simp) wY) rfl rfl rfl bh (fun _ _=>trivial) (fun Bq Sb4 hW4=>?_)
      obtain⟨z1,Q1,Q1b,rfl,ho1⟩:=UC.own cG.nil hQ3
      obtain⟨z2,Q2,Q2b,rfl,ho2⟩:=UD.own ho1 hQ5
      have hs1:=ZA.sml
      have hs4:=hM4.sml
      have CP:sb.length≤256:=by have:=hs1.1;rw[hx3,List.length_map] at this;exact this
      have hl5:Lz.length≤256:=by have:=hs4.1;rw[hx5,List.length_map] at this;exact this
      have hL1:∀ s,s∈il3→s.xs.length≤4294967296:=fun s hs=>by rcases UD.mem s hs with h|h;(rcases UC.mem s h with h|h;(cases h);(have:=hs1.2.2.2 s.xs (by rw[hx3];exact List.mem_map_of_mem h);omega));(have:=hs4.2.2.2 s.xs (by rw[hx5];exact List.mem_map_of_mem h);omega)
      have afx:aG En 9 42 (Sl.v ⟨aN,re.length+64,nl⟩) nl SE:=by show aG En 9 42 (.slice aN nl.length _) nl SE;rw[wY];exact QR
      refine oZ kV (cR fun _ ou=>?_);refine oM ?_;refine aX (Gb hW4 UD.le (pK hL1) z2 (([]++Q1)++Q2) ho2 (by simp) (pK (by simp only[List.cons_append,List.nil_append,List.mem_cons,List.not_mem_nil,or_false,forall_eq_or_imp,forall_eq];omega)) _ (tA++Se5) (cG.cons hE3 (p9 hE5)) (by simp) (pK (by simp only[List.cons_append,List.nil_append,List.mem_cons,List.not_mem_nil,or_false,forall_eq_or_imp,forall_eq];omega)) _ (Wg++Sa5) (cG.cons QQ (p9 QE)) (by simp) (pK (by simp only[List.cons_append,List.nil_append,List.mem_cons,List.not_mem_nil,or_false,forall_eq_or_imp,forall_eq];omega)) _ SE (p9 afx) (by simp) (pK (by simp only[List.cons_append,List.nil_append,List.mem_cons,List.not_mem_nil,or_false,forall_eq_or_imp,forall_eq];omega)) _ (Ux++Sn5) (cG.cons hR3 (p9 hR5))) rfl rfl rfl (by (simp only[List.append_assoc,List.nil_append];exact (aJ.cy bh (aJ.cy bh (aJ.cy bh (aJ.cy bh (aJ.cy bh (aJ.cy bh (aJ.cy bh (aJ.cy bh (aJ.cy bh bh))))))))))) (fun _ _=>trivial) (fun OX apa qx=>?_)
      subst qx;refine oA (oZ ou (aA ?_));refine ?_;exact xR rfl rfl (rfl)
 ·refine oZ bK ?_;refine cT (cR fun _ rh=>?_);refine oA (oZ rh (aA ?_));refine aj (?_);exact xR rfl rfl (rfl)
theorem own:ownKnob Tryz.prog.godebug=none:=by kernel_rfl
theorem laidOut:laidOutB Tryz.prog=true:=by kernel_rfl
theorem IP (os:Os)(args:Array Value):laidMetH Tryz.prog Rows.statesMakesRow.laid ((World.doorLaid Tryz.prog 400 os).forCall (fun _ _=>0) ⟨#[],args,[]⟩).memory:=
 laidMetH_of_parts3 (fuel:=8) (laidMet_of_run' 8 (by kernel_rfl) (by kernel_rfl)) (by kernel_rfl) (by kernel_rfl)
theorem Rp:Rows.laid_math_bits_deBruijn64tab=Lib.tabData (H:=Unit) .u8 (Lib.deBruijn64tab.map fun n:Nat=>(n:Int)):=rfl
theorem F5 {P:Program}{W:World}{name:String}{k:IntKind}{zs:List Int}{rest:List (String×DataW Unit)}{ps:List MemPlace}{g:Nat}{t e:TypeId}{n:Nat}
   (hg:P.globalNamed name=some g)(hty:(P.globals[g]?).map (·.type)=some t)(ht:P.underlying t=some (.array n e))(he:P.underlying e=some (.int k))(hce:P.cellsOf e=1)(hct:P.cellsOf t=n)
   (h:DataW.LaidVars P W ((name,Lib.tabData k zs)::rest) ps):Lib.TabIs P W name k zs:=by
 obtain⟨g',t',cs,fuel,p,q,hg',ht',WB,hd,hr,_⟩:=h
 obtain rfl:=Option.some.inj (hg.symm.trans hg')
 obtain rfl:=Option.some.inj (hty.symm.trans ht')
 unfold Lib.TabIs
 rw[WB,← Lib.cells_of_tab ht he hce hct hd]
theorem F6 {P:Program}{W:World}{x:String×DataW Unit}{rest:List (String×DataW Unit)}{ps:List MemPlace}(h:DataW.LaidVars P W (x::rest) ps):∃ q,DataW.LaidVars P W rest q:=by
 obtain⟨g',t',cs,fuel,p,q,hg',ht',WB,hd,hr,_⟩:=h
 exact⟨q,hr⟩
theorem Ns {W:World}(h:laidMetH Tryz.prog [("math/bits.deBruijn32tab",Rows.laid_math_bits_deBruijn32tab),("math/bits.deBruijn64tab",Rows.laid_math_bits_deBruijn64tab),("internal/strconv.uint64pow10",Rows.laid_internal_strconv_uint64pow10)] W):Tb [] W:=by
 rw[MakeChecks.laidMetH_plain _ _ _ (by kernel_rfl)] at h
 rw[Rp] at h
 obtain⟨ps,hv,_⟩:=h
 obtain⟨q,hr⟩:=F6 hv
 have ht:=F5 (g:=0) (t:=226) (e:=5) (n:=64) (by kernel_rfl) (by kernel_rfl) (by kernel_rfl) (by kernel_rfl) (by kernel_rfl) (by kernel_rfl) hr
 have h1:=Co (g:=0) (by kernel_rfl) ht
 rw[List.map_map] at h1
 exact⟨h1,fun hm=>by cases hm⟩
theorem Nt:gz Tryz.prog 42 En (fun _ t=>-128≤t.op∧t.op<128):=
 yw Tryz.underlying42 rfl (by kernel_rfl) (by kernel_rfl) (by kernel_rfl) (by kernel_rfl) (by kernel_rfl) (by kernel_rfl) (Nu Tryz.underlying40) (Mc.Nv Tryz.underlying39 Tryz.underlying37 (by kernel_rfl) (by kernel_rfl)) (pj Tryz.underlying3) (pj Tryz.underlying3) (pj Tryz.underlying3) (pj Tryz.underlying3) fun w a b c d e f ha _ _ _ _ _=>⟨⟨a,b,c,d,e,f⟩,rfl,ha⟩
end Go.Proofs.YtmompllplidphaaGreatDoor
