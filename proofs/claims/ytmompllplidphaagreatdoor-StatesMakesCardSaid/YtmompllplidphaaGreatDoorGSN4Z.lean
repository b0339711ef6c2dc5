/- Part of the proofs over this seat: see the text that holds the theorem. Conditions: each theorem bears its own. -/
import Derived.Test.YtmompllplidphaaGreatDoorHTZ
import Derived.Test.YtmompllplidphaaGreatDoorGSW2Z
import Derived.Test.YtmompllplidphaaGreatDoorMC9Z
namespace Go.Proofs.YtmompllplidphaaGreatDoor
open Go Go.HL Go.Proofs Go.HL.Kl Go.HL.Kl.Mc
set_option maxHeartbeats 2000000 in
theorem va (f:Nat)(ih:∀ f1,f=f1+1→Fb Tryz.prog 86 129 f1)(bx:Nat)(ra:Option Addr)(rc:Nat)(re:List Nd)(i wi gr:Nat)(ea:Option Addr)(ec:Nat)(en:List Bool)(Se:Hp)(ey:∀ x∈re,-128≤x.op∧x.op<128)(hwi:wi+f=260)(hi:i≤re.length)(kH:en.length≤255)(hg:gr≤64)(hO:aG fR 1 4 (.slice ea en.length ec) en Se):HL.Fn Tryz.prog 86 [.pointer (some ⟨bx,0,none⟩),.int .i64 wi,.int .i64 gr] (fun w=>Rd En w (.slice ra re.length rc) re∧ew (keys ((bx,.cells [.slice ra re.length rc,.int .i64 i,.slice ea en.length ec].toArray 129 (0,0))::Se)) (.slice ra re.length rc)) ((bx,.cells [.slice ra re.length rc,.int .i64 i,.slice ea en.length ec].toArray 129 (0,0))::Se) (JW 129 bx ra rc re (iD re f i en gr)):=by
 refine aW Tryz.func86 rfl rfl rfl fun w0 hw=>?_
 have dr:=hw.1.sl
 have s3:=dr.le
 have gu:=hO.sl
 refine cR fun _ bI=>?_;refine oA (oZ bI (ah fun _ bJ=>?_));refine ah fun _ bK=>?_;refine aK ((bx,.cells [.slice ra re.length rc,.int .i64 i,.slice ea en.length ec].toArray 129 (0,0))::Se) (fun i=>false) ?_;refine eK 0 rfl sM ?_;refine eK 1 rfl sN ?_;refine eK 2 rfl sF ?_;refine eK 3 rfl sL ?_;refine eK 4 rfl sM ?_;refine eK 5 rfl sN ?_;refine eK 6 rfl sF ?_;refine eK 7 rfl sL ?_;refine eK 8 rfl sC ?_
 by_cases RP:(i:Int)≥re.length
 ·have hN:iD re f i en gr=none:=Fc (by omega)
  refine eK 9 rfl geT ?_;refine eK 10 rfl sM ?_;refine eS 11 rfl (eS 12 rfl ?_);refine eK 13 rfl sT (eZ bK ?_);refine cT (cR fun _ bU=>?_);refine oA (oZ bU (aA ?_));refine aj (?_);exact xR rfl rfl ((by rw[hN];rfl))
 ·refine eK 9 rfl geF ?_;refine eK 10 rfl sM ?_;refine eG 11 rfl sM ?_
  by_cases hf:(wi:Int)>259
  ·obtain rfl:f=0:=by omega
   have hN:iD re 0 i en gr=none:=rfl
   refine eG 12 rfl Gp ?_;refine eK 13 rfl sP (eZ bK ?_);refine cT (cR fun _ bT=>?_);refine oA (oZ bT (aA ?_));refine aj (?_);exact xR rfl rfl ((by rw[hN];rfl))
  ·obtain⟨f1,rfl⟩:∃ f1,f=f1+1:=⟨f-1,by omega⟩
   obtain⟨x,hx⟩:∃ x,re[i]?=some x:=⟨_,List.getElem?_eq_getElem (show i<re.length by omega)⟩
   have wa:=ey x (List.mem_of_getElem? hx)
   refine eG 12 rfl Gq ?_;refine eK 13 rfl sP (eZ bK ?_);refine eL bJ (ah fun _ bZ=>?_);refine aK ((bx,.cells [.slice ra re.length rc,.int .i64 i,.slice ea en.length ec].toArray 129 (0,0))::Se) (fun i=>Nat.beq i 11) ?_;refine eK 0 rfl sM ?_;refine eK 1 rfl sN ?_;refine eK 2 rfl sF ?_;refine eK 3 rfl sL ?_;refine eK 4 rfl sM ?_;refine eK 5 rfl sN ?_;refine eK 6 rfl sF ?_;refine eK 7 rfl sL ?_;refine eK 8 rfl (au rfl rfl dr (by omega)) ?_;refine eK 9 rfl (aD rfl ((cq.old hw.1 hw.2).gx i hx rfl) (by rfl)) ?_;refine eO 10 rfl ?_;refine aB (l:=En zN) (by rw[gI];rfl) rfl fun b7=>?_;refine oX (eO 11 rfl ?_);refine bf rfl rfl bY aS aS fE ?_;refine ak ?_;refine cE rfl ?_;refine eZ bZ (cR fun _ cj=>?_);refine oM ?_;refine oS sN ?_;refine oS sF ?_;refine oS sL ?_;refine oS sD ?_;refine oS sN ?_;refine oS sF ?_;refine bg rfl rfl rfl bY kD rfl ?_
   dsimp only[List.set]
   refine oZ cj (ah fun _ ck=>?_);refine cR fun _ cQ=>?_;refine oS (aD rfl (aI.aO (.own aV)) (by rfl)) ?_;refine ar (Ov x wa) rfl rfl rfl (fun _ _=>trivial) (fun v42 Kb=>?_);subst Kb
   cases Gd:sJ x
   ·have hN:iD re (f1+1) i en gr=none:=ze hx (by rw[eH,Gd];simp)
    refine oS (aT rfl) ?_;refine oM ?_;refine oN ?_;refine oN ?_;refine oN ?_;refine oS sT (oZ cQ ?_);refine cT (cR fun _ bw=>?_);refine oA (oZ bw (aA ?_));refine aj (?_);exact xR rfl rfl ((by rw[hN];rfl))
   ·refine oS (aT rfl) ?_;refine oM ?_;refine oY ?_;refine oS (aD rfl (aI.aO (.own aV)) (by rfl)) ?_;refine oY ?_;refine ar (Ow x wa) rfl rfl rfl (fun _ _=>trivial) (fun v46 aee=>?_);subst aee
    cases hko:gi x
    ·have hN:iD re (f1+1) i en gr=none:=ze hx (by rw[eH,hko];simp)
     refine oY ?_;refine oS (aT rfl) ?_;refine oS sP (oZ cQ ?_);refine cT (cR fun _ bF=>?_);refine oA (oZ bF (aA ?_));refine aj (?_);exact xR rfl rfl ((by rw[hN];rfl))
    ·have pd:eH x=true:=by rw[eH,Gd,hko];rfl
     have o6:=kZ pd
     refine oY ?_;refine oS (aT rfl) ?_;refine oS sP (oZ cQ ?_);refine eL ck (cR fun _ bD=>?_);refine oS sF ?_;refine oS sL ?_;refine oS (qg rfl (by omega)) ?_;refine oA (oZ bD ?_);refine fU (ι:=Unit) (fun g=>x.op=8→1≤x.n∧x.n≤en.length∧en[x.n.toNat-1]?=some true) (fun g=>[]) [(0,_),(1,_),(2,_),(7,_),(8,_)] (fun g=>(bx,.cells [.slice ra re.length rc,.int .i64 (i+1:Nat),.slice ea en.length ec].toArray 129 (0,0))::(b7,.cells (En x).toArray 42 (0,0))::Se) aH ?_ ?_
     ·rintro g hg8
      refine fU (ι:=(List Bool×Nat×Option Addr×Nat×Hp)) (fun g=>gate x en gr=some (g.1,g.2.1)∧aG fR 1 4 (.slice g.2.2.1 g.1.length g.2.2.2.1) g.1 g.2.2.2.2) (fun g=>[(2,.int .i64 g.2.1)]) [(0,_),(1,_),(7,_),(8,_)] (fun g=>(bx,.cells [.slice ra re.length rc,.int .i64 (i+1:Nat),.slice g.2.2.1 g.1.length g.2.2.2.1].toArray 129 (0,0))::(b7,.cells (En x).toArray 42 (0,0))::g.2.2.2.2) aH ?_ ?_
      ·rintro⟨uY,g1,ko,kp,Oh⟩ ⟨rb,GZ⟩
       dsimp only at rb GZ
       dsimp only
       have zY:=uZ rb kH hg
       refine ah fun _ bQ=>?_;refine cR fun _ cO=>?_;refine oA (oZ cO (ai ?_));refine jY (fun (k:Nat)(i2:Nat)(jb:List Bool)(fi:Option Addr)(fj:Nat)(ny:Hp)=>(k:Int)≤x.kids∧fS (fun i en=>iD re f1 i en g1) k (i+1) uY=some (i2,jb)∧i+1+k≤i2∧i2≤re.length∧jb.length≤255∧uY.length≤jb.length∧aG fR 1 4 (.slice fi jb.length fj) jb ny) (fun (k:Nat)(i2:Nat)(jb:List Bool)(fi:Option Addr)(fj:Nat)(ny:Hp)=>[(9,.int .i64 k)]) [(0,_),(1,_),(2,_),(7,_),(8,_)] (fun (k:Nat)(i2:Nat)(jb:List Bool)(fi:Option Addr)(fj:Nat)(ny:Hp)=>(bx,.cells [.slice ra re.length rc,.int .i64 i2,.slice fi jb.length fj].toArray 129 (0,0))::(b7,.cells (En x).toArray 42 (0,0))::ny) (fun (k:Nat)(i2:Nat)(jb:List Bool)(fi:Option Addr)(fj:Nat)(ny:Hp)=>x.kids.toNat-k) 0 (i+1) uY ko kp Oh ⟨by omega,rfl,by omega,by omega,zY.2.1,Nat.le_refl _,GZ⟩ aH aH aP ?_
       rintro k i2 jb fi fj ny ⟨hk,EI,Ta,Ie,C7,adU,JX⟩
       refine ah fun _ df=>?_;refine cR fun _ cZ=>?_;refine oM ?_;refine oS sF ?_;refine oS sL ?_
       by_cases EF:(k:Int)<x.kids
       ·refine oS wg (oZ cZ ?_);refine gp df (ah fun _ dq=>?_);refine ai (cR fun _ dG=>?_);refine oM (oM ?_);refine oS sD (oM ?_);refine aX (ih f1 rfl bx ra rc re i2 (wi+1) g1 fi fj jb ny ey (by omega) Ie C7 zY.2.2.1 JX) rfl rfl rfl ((aJ.bR bh bh)) (fun w st=>⟨(cq.old hw.1 hw.2).out w st,St.di st (by exact AO) hw.1 hw.2 (by decide)⟩) (fun X5 aef Fm=>?_)
        rcases dV:iD re f1 i2 jb g1 with _|⟨i3,Oi⟩
        ·obtain rfl:X5 = .bool false:=by rw[dV] at Fm;exact Fm
         have hN:iD re (f1+1) i en gr=none:=AP hx rb (ow (jF EI dV) (by omega))
         refine oS (aT rfl) ?_;refine oZ dG ?_;refine cT (cR fun _ eb=>?_);refine oA (oZ eb (aA ?_));refine aw (aj (aj (aw (aj (?_)))))
         exact xR rfl rfl ((by rw[hN];rfl))
        ·obtain⟨X6,sK,sO,tA,rfl,XJ⟩:X5 = .bool true∧∃ sK sO tA,aef=k8 129 bx ra rc re i3 sK sO Oi::tA∧aG fR 1 4 (.slice sK Oi.length sO) Oi tA:=by rw[dV] at Fm;exact Fm
         subst X6
         unfold k8
         refine oS (aT rfl) ?_;refine oZ dG ?_;refine cF (ax (aq (xZ dq (ae (oM ?_)))));refine oS sD (oA (ak ?_));exact xI (k+1,i3,Oi,sK,sO,tA) ⟨by omega,jF EI dV,by have:=JY dV;dsimp only;omega,JZ dV,(p8 C7 zY.2.2.1 dV).2,by have:=(p8 C7 zY.2.2.1 dV).1;dsimp only;omega,XJ⟩
       ·obtain rfl:k=x.kids.toNat:=by omega
        have hN:=AQ hx pd rb EI
        have Tc:=JX.sl
        refine oS wh (oZ cZ ?_);refine cF ?_;refine ay ?_;refine ad (ad (ag (xZ bQ (ah fun _ dL=>?_))));refine cR fun _ dR=>?_;refine oM ?_
        by_cases k7:x.op=7
        ·have hg7:=zY.2.2.2 k7
         refine oS ij (oZ dR ?_);refine cT ?_;refine aK ((bx,.cells [.slice ra re.length rc,.int .i64 i2,.slice fi jb.length fj].toArray 129 (0,0))::(b7,.cells (En x).toArray 42 (0,0))::ny) (fun i=>Nat.beq i 8) ?_;refine eK 0 rfl sM ?_;refine eK 1 rfl sN ?_;refine eK 2 rfl sF ?_;refine eK 3 rfl sL ?_;refine eK 4 rfl sF ?_;refine eK 5 rfl sL ?_;refine eK 6 rfl sU ?_;refine eK 7 rfl (au rfl rfl Tc (by omega)) ?_;refine eO 8 rfl ?_;refine dp (x.n.toNat-1) true JX bh rfl rfl rfl (by omega) (by omega) fun S' wH=>?_;refine ak ?_;refine cE rfl ?_;refine eZ dL (cR fun _ dk=>?_);refine oA (oZ dk (aA ?_));refine ?_;refine cM (Sub.refl _) (H':=(bx,.cells [.slice ra re.length rc,.int .i64 i2,.slice fi jb.length fj].toArray 129 (0,0))::S') aP ?_;exact xR rfl rfl ((by rw[hN,if_pos k7];exact⟨rfl,fi,fj,S',by unfold k8;rw[List.length_set],by rw[List.length_set];exact wH⟩))
        ·refine oS ik (oZ dR ?_);refine eL dL (cR fun _ dE=>?_);refine oA (oZ dE (aA ?_));refine ?_;refine cM (Sub.refl _) (H':=(bx,.cells [.slice ra re.length rc,.int .i64 i2,.slice fi jb.length fj].toArray 129 (0,0))::ny) aP ?_;exact xR rfl rfl ((by rw[hN,if_neg k7];exact⟨rfl,_,_,_,rfl,JX⟩))
      ·intro _ X7
       refine cR fun _ dS=>?_;refine oM ?_
       by_cases h7:x.op=7
       ·refine oS ij (oZ dS ?_);refine cT (ah fun _ dW=>?_);refine ah fun _ ee=>?_;refine aK ((bx,.cells [.slice ra re.length rc,.int .i64 (i+1:Nat),.slice ea en.length ec].toArray 129 (0,0))::(b7,.cells (En x).toArray 42 (0,0))::Se) (fun i=>false) ?_;refine eK 0 rfl sF ?_;refine eK 1 rfl sL ?_;refine eK 2 rfl sM ?_;refine eK 3 rfl sN ?_;refine eK 4 rfl sF ?_;refine eK 5 rfl sL ?_;refine eK 6 rfl sC ?_;refine eK 7 rfl sD ?_
        by_cases Qu:x.n≠en.length+1
        ·have hN:iD re (f1+1) i en gr=none:=fu hx (lf h7 (by omega))
         refine eK 8 rfl N7 ?_;refine eK 9 rfl sM ?_;refine eS 10 rfl (eS 11 rfl (eS 12 rfl ?_));refine eK 13 rfl sT ?_;refine eK 14 rfl sM ?_;refine eS 15 rfl (eS 16 rfl ?_);refine eK 17 rfl sT (eZ ee ?_);refine cT (cR fun _ eh=>?_);refine oA (oZ eh (aA ?_));refine aj (aj (?_))
         exact xR rfl rfl ((by rw[hN];rfl))
        ·refine eK 8 rfl N8 ?_;refine eK 9 rfl sM ?_;refine eG 10 rfl sF ?_;refine eG 11 rfl sL ?_
         by_cases Qv:x.n>255
         ·have hN:iD re (f1+1) i en gr=none:=fu hx (lf h7 (by omega))
          refine eG 12 rfl Gp ?_;refine eK 13 rfl sP ?_;refine eK 14 rfl sM ?_;refine eS 15 rfl (eS 16 rfl ?_);refine eK 17 rfl sT (eZ ee ?_);refine cT (cR fun _ eD=>?_);refine oA (oZ eD (aA ?_));refine aj (aj (?_))
          exact xR rfl rfl ((by rw[hN];rfl))
         ·refine eG 12 rfl Gq ?_;refine eK 13 rfl sP ?_;refine eK 14 rfl sM ?_;refine eG 15 rfl sM ?_
          by_cases hn3:(gr:Int)≥64
          ·have hN:iD re (f1+1) i en gr=none:=fu hx (lf h7 (by omega))
           refine eG 16 rfl geT ?_;refine eK 17 rfl sP (eZ ee ?_);refine cT (cR fun _ dN=>?_);refine oA (oZ dN (aA ?_));refine aj (aj (?_))
           exact xR rfl rfl ((by rw[hN];rfl))
          ·refine eG 16 rfl geF ?_;refine eK 17 rfl sP (eZ ee ?_);refine eL dW (cR fun _ e6=>?_);refine oM (oM ?_);refine oS sN ?_;refine oS sF ?_;refine oS sL ?_;refine ct (E:=fR) (xs:=[false]) (vs:=[_]) rfl rfl rfl rfl rfl (by decide) (by decide) fun aeg Ts Ko=>?_;refine bX hO (Ko.aU aM) rfl rfl rfl rfl (by simp only[List.length_singleton];omega) (by simp only[List.length_singleton];omega) rfl bh fun Tt Tu NK Ar=>?_;refine oS sN ?_;refine oS sF ?_;refine bg rfl rfl rfl bY kD rfl ?_
           dsimp only[List.set]
           refine oZ e6 (ae (oM ?_));refine oS sD (oA (ak ?_));exact av (X7 (en++[false],gr+1,Tt,Tu,NK) _ _ ⟨AS h7 ⟨by omega,by omega,by omega⟩,Ar⟩ aH aH aP)
       ·refine oS ik (oZ dS ?_);refine cF (ax ?_);exact av (X7 (en,gr,ea,ec,Se) _ _ ⟨G5 h7 hg8,hO⟩ aH aH aP)
     ·intro _ X8
      refine ah fun _ du=>?_;refine aK ((bx,.cells [.slice ra re.length rc,.int .i64 (i+1:Nat),.slice ea en.length ec].toArray 129 (0,0))::(b7,.cells (En x).toArray 42 (0,0))::Se) (fun i=>false) ?_;refine eK 0 rfl sM ?_
      by_cases h8:x.op=8
      ·refine eK 1 rfl ij ?_;refine eK 2 rfl sM ?_;refine eG 3 rfl sF ?_;refine eG 4 rfl sL ?_
       by_cases Qu:x.n<1
       ·have hN:iD re (f1+1) i en gr=none:=fu hx (k9 h8 (by omega))
        refine eG 5 rfl wg ?_;refine eG 6 rfl sM ?_;refine eS 7 rfl (eS 8 rfl (eS 9 rfl (eS 10 rfl (eS 11 rfl (eS 12 rfl (eS 13 rfl (eS 14 rfl ?_)))))));refine eG 15 rfl sT ?_;refine eG 16 rfl sM ?_;refine eS 17 rfl (eS 18 rfl (eS 19 rfl (eS 20 rfl (eS 21 rfl (eS 22 rfl (eS 23 rfl (eS 24 rfl (eS 25 rfl (eS 26 rfl ?_)))))))));refine eG 27 rfl sT ?_;refine eK 28 rfl sT (eZ du ?_);refine cT (cR fun _ fF=>?_);refine oA (oZ fF (aA ?_));refine aj (?_);exact xR rfl rfl ((by rw[hN];rfl))
       ·refine eG 5 rfl wh ?_;refine eG 6 rfl sM ?_;refine eG 7 rfl sF ?_;refine eG 8 rfl sL ?_;refine eG 9 rfl sM ?_;refine eG 10 rfl sN ?_;refine eG 11 rfl sF ?_;refine eG 12 rfl sL ?_;refine eG 13 rfl sC ?_
        by_cases Qv:x.n>en.length
        ·have hN:iD re (f1+1) i en gr=none:=fu hx (k9 h8 (by omega))
         refine eG 14 rfl Gp ?_;refine eG 15 rfl sP ?_;refine eG 16 rfl sM ?_;refine eS 17 rfl (eS 18 rfl (eS 19 rfl (eS 20 rfl (eS 21 rfl (eS 22 rfl (eS 23 rfl (eS 24 rfl (eS 25 rfl (eS 26 rfl ?_)))))))));refine eG 27 rfl sT ?_;refine eK 28 rfl sT (eZ du ?_);refine cT (cR fun _ fx=>?_);refine oA (oZ fx (aA ?_));refine aj (?_);exact xR rfl rfl ((by rw[hN];rfl))
        ·refine eG 14 rfl Gq ?_;refine eG 15 rfl sP ?_;refine eG 16 rfl sM ?_;refine eG 17 rfl sM ?_;refine eG 18 rfl sN ?_;refine eG 19 rfl sF ?_;refine eG 20 rfl sL ?_;refine eG 21 rfl sF ?_;refine eG 22 rfl sL ?_;refine eG 23 rfl sU ?_;refine eG 24 rfl (au rfl rfl gu (by omega)) ?_
         by_cases hb:en[x.n.toNat-1]?=some true
         ·refine eG 25 rfl (az rfl ((hO.aU aM).ld (x.n.toNat-1) 0 hb rfl (by decide) (by omega))) ?_;refine eG 26 rfl (aT rfl) ?_;refine eG 27 rfl sP ?_;refine eK 28 rfl sT (eZ du ?_);refine cF (ax ?_);exact av (X8 () _ _ (fun _=>⟨by omega,by omega,hb⟩) aH aH aP)
         ·have hN:iD re (f1+1) i en gr=none:=fu hx (k9 h8 (fun h=>hb h.2.2))
          have Ih:=xy hb (by omega)
          refine eG 25 rfl (az rfl ((hO.aU aM).ld (x.n.toNat-1) 0 Ih rfl (by decide) (by omega))) ?_;refine eG 26 rfl (aT rfl) ?_;refine eG 27 rfl sP ?_;refine eK 28 rfl sT (eZ du ?_);refine cT (cR fun _ fN=>?_);refine oA (oZ fN (aA ?_));refine aj (?_);exact xR rfl rfl ((by rw[hN];rfl))
      ·refine eK 1 rfl ik ?_;refine eK 2 rfl sM ?_;refine eS 3 rfl (eS 4 rfl (eS 5 rfl (eS 6 rfl (eU 7 rfl (eU 8 rfl (eU 9 rfl (eU 10 rfl (eU 11 rfl (eU 12 rfl (eU 13 rfl (eU 14 rfl (eS 15 rfl (eS 16 rfl (eU 17 rfl (eU 18 rfl (eU 19 rfl (eU 20 rfl (eU 21 rfl (eU 22 rfl (eU 23 rfl (eU 24 rfl (eU 25 rfl (eU 26 rfl ?_)))))))))))))))))))))))
       refine eS 27 rfl ?_;refine eK 28 rfl sP (eZ du ?_);refine cF (ax ?_);exact av (X8 () _ _ (fun h=>absurd h h8) aH aH aP)
theorem Ox:∀ f,Fb Tryz.prog 94 149 f:=by
 intro f
 induction f with
 | zero=>exact fun bx ra rc re i wi g ea ec en Se h1 h2 h3 h4 h5 h6=>xw 0 (fun f1 h=>by omega) bx ra rc re i wi g ea ec en Se h1 h2 h3 h4 h5 h6
 | succ f ih=>exact fun bx ra rc re i wi g ea ec en Se h1 h2 h3 h4 h5 h6=>xw (f+1) (fun f1 h=>(Nat.succ.inj h) ▸ ih) bx ra rc re i wi g ea ec en Se h1 h2 h3 h4 h5 h6
theorem Kp:∀ f,Fb Tryz.prog 86 129 f:=by
 intro f
 induction f with
 | zero=>exact fun bx ra rc re i wi g ea ec en Se h1 h2 h3 h4 h5 h6=>va 0 (fun f1 h=>by omega) bx ra rc re i wi g ea ec en Se h1 h2 h3 h4 h5 h6
 | succ f ih=>exact fun bx ra rc re i wi g ea ec en Se h1 h2 h3 h4 h5 h6=>va (f+1) (fun f1 h=>(Nat.succ.inj h) ▸ ih) bx ra rc re i wi g ea ec en Se h1 h2 h3 h4 h5 h6
set_option maxHeartbeats 1000000 in
theorem Dd (x:Nd)(ks:F)(ih:∀ y gv,gv.size<ks.size→zi Tryz.prog 95 y gv)(ra:Option Addr)(rc:Nat)(re:List Nd)(i i1:Nat)(ey:∀ x∈re,-128≤x.op∧x.op<128)(hp:Part re (.nd x ks .nil) i i1):HL.Fn Tryz.prog 95 [.slice ra re.length rc,.int .i64 i] (fun w=>Rd En w (.slice ra re.length rc) re) [] (fun v _=>v = .tuple #[.int .i64 (cut (F.nd x ks .nil).weight),.int .i64 i1]):=by
 refine aW Tryz.func95 rfl rfl rfl fun w0 hw=>?_
 have dr:=hw.sl
 have s3:=dr.le
 obtain⟨hx,gS,hpn⟩:=hp.head
 have hii:i1=i+1+ks.size:=by simpa [F.size] using hpn.len
 have aej:=hp.le
 have pd:eH x=true:=hp.wf.1
 have o6:=kZ pd
 have EI:(ks.num:Int)=x.kids:=hp.wf.2.1
 have wa:=ey x (List.mem_of_getElem? hx)
 have aek:i<re.length:=(List.getElem?_eq_some_iff.1 hx).1
 have Ac:=AZ pd
 have yp:=iw x
 have hns:=F.ju ks
 have X9:=gS.le
 rw[← hii] at gS
 refine cR fun _ bI=>?_;refine oA (oA (oZ bI (cR fun _ bJ=>?_)));refine oM (oM ?_);refine oS (au rfl rfl dr (by omega)) ?_;refine oS (aD rfl ((cq.bj hw).gx i hx rfl) (by rfl)) ?_;refine aB (l:=En zN) (by rw[gI];rfl) rfl fun b6=>?_;refine bf rfl rfl bY aS aS fE ?_;refine oZ bJ (cR fun _ bK=>?_);refine oM ?_;refine oS sD (oA (oA (oZ bK (ah fun _ bU=>?_))));refine cR fun _ bT=>?_;refine oS sF ?_;refine oS sL (oM (oZ bT (ai ?_)));refine fM (fun (k:Nat)(to:Nat)(dw:Nat)(r:F)=>k+r.num=ks.num∧Part re r to i1∧dw+r.weight=ks.weight∧r.size≤ks.size) (fun (k:Nat)(to:Nat)(dw:Nat)(r:F)=>[(19,.int .i64 k),(7,.int .i64 (cut dw)),(8,.int .i64 to)]) [(0,_),(4,_),(5,_),(6,_),(18,_)] (fun (k:Nat)(to:Nat)(dw:Nat)(r:F)=>[(b6,.cells (En x).toArray 42 (0,0))]) (fun (k:Nat)(to:Nat)(dw:Nat)(r:F)=>ks.num-k) 0 (i+1) 0 ks ⟨by omega,gS,by omega,Nat.le_refl _⟩ aH aH aP ?_
 rintro k to dw r ⟨Oy,Tv,Ya,F1⟩
 have jq:=jG dw
 refine cR fun _ bZ=>?_
 by_cases EF:(k:Int)<x.kids
 ·obtain⟨y,gv,r1,rfl⟩:∃ y gv r1,r=F.nd y gv r1:=by cases r with|nil=>simp[F.num] at Oy;omega|nd y a b=>exact⟨y,a,b,rfl⟩
  obtain⟨hy,hpy,H4⟩:=Tv.head
  have Kq:Part re (.nd y gv .nil) to (to+1+gv.size):=Tv.one
  have Tw:gv.size<ks.size:=by simp only[F.size] at F1;omega
  have hcy:=jG (F.nd y gv .nil).weight
  have ael:=Kq.le
  refine oS wg (oZ bZ (ah fun _ cj=>?_));refine gp cj (ah fun _ ck=>?_);refine ai (cR fun _ cQ=>?_);refine oM (oM ?_);refine ar (ih y gv Tw ra rc re to (to+1+gv.size) ey Kq) rfl rfl rfl (fun w st=>(cq.bj hw).out w st) (fun v24 Jp=>?_);subst Jp
  refine oM ?_;refine oS sE ?_;refine oS sE (oA (oA (oZ cQ (ae (oM (oM ?_))))));refine oS sD ?_;refine oS (ab (v':=.int .i64 (cut (dw+(F.nd y gv .nil).weight))) (pg rfl rfl) (by rw[← Fo];unfold cut;congr 1;omega)) ?_;refine oM (oA (oA (ak (aq (xZ ck (ae ?_))))));refine oS sD (oM (ak ?_));exact xI (k+1,to+1+gv.size,dw+(F.nd y gv .nil).weight,r1) ⟨by simp only[F.num] at Oy;dsimp only;omega,H4,by simp only[F.weight] at Ya ⊢;omega,by simp only[F.size] at F1;dsimp only;omega⟩
 ·obtain rfl:r=F.nil:=by cases r with|nil=>rfl|nd y a b=>simp only[F.num] at Oy;omega
  have kE:to=i1:=by have:=Tv.len;simp[F.size] at this;omega
  obtain rfl:dw=ks.weight:=by simpa [F.weight] using Ya
  subst kE;refine oS wh (oZ bZ (ah fun _ bw=>?_));refine cF ?_;refine ay ?_;refine ad (ad (ag (xZ bU (ah fun _ bF=>?_))));refine cR fun _ bD=>?_;refine oS sF ?_;refine oS sL ?_
  by_cases h6:x.op=6
  ·have Jq:=uO pd h6
   refine oS (ij (h:=h6)) ?_;refine oZ bD ?_;refine cT (cR fun _ cb=>?_);refine oS sF ?_;refine oS sL ?_
   by_cases kF:x.mx<0
   ·have Kr:(times x:Int)=x.mn+1:=by rw[times,if_pos h6,if_pos kF];omega
    have vb:=jG ks.weight
    have wj:(cut ks.weight:Int)*times x≤4194560:=nz vb Ac
    have Ks:0≤(cut ks.weight:Int)*times x:=rB _ _
    have iP:=tD (t:=times x) (a:=ks.weight) yp
    rw[Kr] at iP wj Ks
    refine oS wg (oZ cb ?_);refine cT (ae (oM ?_));refine oS sF ?_;refine oS sL ?_;refine oS sD ?_;refine oS (vc rfl rfl (by omega)) ?_;refine oA (oZ bF (cR fun _ bL=>?_));refine oM ?_;refine oS sD ?_;refine oS (ab (v':=.int .i64 (cut (1+times x*ks.weight):Nat)) (pg rfl rfl) (congrArg (Value.int .i64) iP)) ?_;refine oM (oA (oA (oZ bL (aA ?_))));refine ?_;exact cr rfl (.tmp rfl (.tmp rfl (.nil))) ((by rw[iv];rfl))
   ·have Kr:(times x:Int)=max x.mx 1:=by rw[times,if_pos h6,if_neg kF];omega
    have vb:=jG ks.weight
    have wj:(cut ks.weight:Int)*times x≤4194560:=nz vb Ac
    have Ks:0≤(cut ks.weight:Int)*times x:=rB _ _
    have iP:=tD (t:=times x) (a:=ks.weight) yp
    rw[Kr] at iP wj Ks
    refine oS wh (oZ cb ?_);refine cF (ae (oM ?_));refine oS sF ?_;refine oS sL ?_;refine oS (IE rfl rfl) ?_;refine oS (vc rfl rfl (by omega)) ?_;refine oA (oZ bF (cR fun _ bQ=>?_));refine oM ?_;refine oS sD ?_;refine oS (ab (v':=.int .i64 (cut (1+times x*ks.weight):Nat)) (pg rfl rfl) (congrArg (Value.int .i64) iP)) ?_;refine oM (oA (oA (oZ bQ (aA ?_))));refine ?_;exact cr rfl (.tmp rfl (.tmp rfl (.nil))) ((by rw[iv];rfl))
  ·have Kr:(times x:Int)=1:=by rw[times,if_neg h6];rfl
   have vb:=jG ks.weight
   have wj:(cut ks.weight:Int)*times x≤4194560:=nz vb Ac
   have Ks:0≤(cut ks.weight:Int)*times x:=rB _ _
   have iP:=tD (t:=times x) (a:=ks.weight) yp
   rw[Kr] at iP wj Ks
   rw[Int.mul_one] at iP
   refine oS (ik (h:=h6)) ?_;refine oZ bD ?_;refine eL bF (cR fun _ cO=>?_);refine oM ?_;refine oS sD ?_;refine oS (ab (v':=.int .i64 (cut (1+times x*ks.weight):Nat)) (pg rfl rfl) (congrArg (Value.int .i64) iP)) ?_;refine oM (oA (oA (oZ cO (aA ?_))));refine ?_;exact cr rfl (.tmp rfl (.tmp rfl (.nil))) ((by rw[iv];rfl))
set_option maxHeartbeats 1000000 in
theorem Bj (x:Nd)(ks:F)(ih:∀ y gv,gv.size<ks.size→zi Tryz.prog 87 y gv)(ra:Option Addr)(rc:Nat)(re:List Nd)(i i1:Nat)(ey:∀ x∈re,-128≤x.op∧x.op<128)(hp:Part re (.nd x ks .nil) i i1):HL.Fn Tryz.prog 87 [.slice ra re.length rc,.int .i64 i] (fun w=>Rd En w (.slice ra re.length rc) re) [] (fun v _=>v = .tuple #[.int .i64 (cut (F.nd x ks .nil).weight),.int .i64 i1]):=by
 refine aW Tryz.func87 rfl rfl rfl fun w0 hw=>?_
 have dr:=hw.sl
 have s3:=dr.le
 obtain⟨hx,gS,hpn⟩:=hp.head
 have hii:i1=i+1+ks.size:=by simpa [F.size] using hpn.len
 have aej:=hp.le
 have pd:eH x=true:=hp.wf.1
 have o6:=kZ pd
 have EI:(ks.num:Int)=x.kids:=hp.wf.2.1
 have wa:=ey x (List.mem_of_getElem? hx)
 have aek:i<re.length:=(List.getElem?_eq_some_iff.1 hx).1
 have Ac:=AZ pd
 have yp:=iw x
 have hns:=F.ju ks
 have X9:=gS.le
 rw[← hii] at gS
 refine cR fun _ bI=>?_;refine oA (oA (oZ bI (cR fun _ bJ=>?_)));refine oM (oM ?_);refine oS (au rfl rfl dr (by omega)) ?_;refine oS (aD rfl ((cq.bj hw).gx i hx rfl) (by rfl)) ?_;refine aB (l:=En zN) (by rw[gI];rfl) rfl fun b6=>?_;refine bf rfl rfl bY aS aS fE ?_;refine oZ bJ (cR fun _ bK=>?_);refine oA (oZ bK (cR fun _ bU=>?_));refine oM ?_;refine oS sD (oA (oZ bU ?_))
 refine ah fun _ bT=>?_;refine cR fun _ bZ=>?_;refine oA (oZ bZ (ai ?_));refine fM (fun (k:Nat)(to:Nat)(dw:Nat)(r:F)=>k+r.num=ks.num∧Part re r to i1∧dw+r.weight=ks.weight∧r.size≤ks.size) (fun (k:Nat)(to:Nat)(dw:Nat)(r:F)=>[(9,.int .i64 k),(7,.int .i64 (cut dw)),(8,.int .i64 to)]) [(0,_),(4,_),(5,_),(6,_)] (fun (k:Nat)(to:Nat)(dw:Nat)(r:F)=>[(b6,.cells (En x).toArray 42 (0,0))]) (fun (k:Nat)(to:Nat)(dw:Nat)(r:F)=>ks.num-k) 0 (i+1) 0 ks ⟨by omega,gS,by omega,Nat.le_refl _⟩ aH aH aP ?_
 rintro k to dw r ⟨Oy,Tv,Ya,F1⟩
 have jq:=jG dw
 refine ah fun _ cj=>?_;refine cR fun _ ck=>?_;refine oM ?_;refine oS sF ?_;refine oS sL ?_
 by_cases EF:(k:Int)<x.kids
 ·obtain⟨y,gv,r1,rfl⟩:∃ y gv r1,r=F.nd y gv r1:=by cases r with|nil=>simp[F.num] at Oy;omega|nd y a b=>exact⟨y,a,b,rfl⟩
  obtain⟨hy,hpy,H4⟩:=Tv.head
  have Kq:Part re (.nd y gv .nil) to (to+1+gv.size):=Tv.one
  have Tw:gv.size<ks.size:=by simp only[F.size] at F1;omega
  have hcy:=jG (F.nd y gv .nil).weight
  have ael:=Kq.le
  refine oS wg (oZ ck ?_);refine gp cj (ah fun _ cQ=>?_);refine ai (cR fun _ bw=>?_);refine oM (oM ?_);refine ar (ih y gv Tw ra rc re to (to+1+gv.size) ey Kq) rfl rfl rfl (fun w st=>(cq.bj hw).out w st) (fun EE gC=>?_);subst gC
  refine oM ?_;refine oS sE ?_;refine oS sE (oA (oA (oZ bw (cR fun _ bF=>?_))));refine oM (oM ?_);refine oS sD ?_;refine oS (ab (v':=.int .i64 (cut (dw+(F.nd y gv .nil).weight))) (pg rfl rfl) (by rw[← Fo];unfold cut;congr 1;omega)) ?_;refine oA (oZ bF (ae (oM (oA (ak (aq (xZ cQ (ae (oM ?_)))))))));refine oS sD (oA (ak ?_));exact xI (k+1,to+1+gv.size,dw+(F.nd y gv .nil).weight,r1) ⟨by simp only[F.num] at Oy;dsimp only;omega,H4,by simp only[F.weight] at Ya ⊢;omega,by simp only[F.size] at F1;dsimp only;omega⟩
 ·obtain rfl:r=F.nil:=by cases r with|nil=>rfl|nd y a b=>simp only[F.num] at Oy;omega
  have kE:to=i1:=by have:=Tv.len;simp[F.size] at this;omega
  obtain rfl:dw=ks.weight:=by simpa [F.weight] using Ya
  subst kE;refine oS wh (oZ ck ?_);refine cF ?_;refine ay ?_;refine ad (ad (ag (xZ bT (cR fun _ bD=>?_))));refine oA (oZ bD (ah fun _ cb=>?_));refine cR fun _ bL=>?_;refine oS sF ?_;refine oS sL ?_;refine oS (qg rfl (by omega)) ?_
  by_cases h6:x.op=6
  ·have Jq:=uO pd h6
   refine oS ij (oZ bL ?_);refine cT (cR fun _ bQ=>?_);refine oS sF ?_;refine oS sL ?_;refine oS (IE rfl rfl) ?_;refine oA (oZ bQ (cR fun _ cO=>?_));refine oS sF ?_;refine oS sL ?_
   by_cases kF:x.mx<0
   ·have Kr:(times x:Int)=x.mn+1:=by rw[times,if_pos h6,if_pos kF];omega
    have vb:=jG ks.weight
    have wj:(times x:Int)*(cut ks.weight:Int)≤4194560:=by rw[Int.mul_comm];exact nz vb Ac
    have Ks:0≤(times x:Int)*(cut ks.weight:Int):=rB _ _
    have iP:=vw (t:=times x) (a:=ks.weight) yp
    rw[Kr] at iP wj Ks
    refine oS wg (oZ cO ?_);refine cT (ae ?_);refine oS sF ?_;refine oS sL ?_;refine oS sD (oA (oZ cb (cR fun _ df=>?_)));refine oM (oM ?_);refine oS (vc rfl rfl (by omega)) ?_;refine oS sD ?_;refine oS (ab (v':=.int .i64 (cut (1+times x*ks.weight):Nat)) (pg rfl rfl) (congrArg (Value.int .i64) iP)) ?_;refine oM (oA (oA (oZ df (aA ?_))));refine ?_;exact cr rfl (.tmp rfl (.tmp rfl (.nil))) ((by rw[iv];rfl))
   ·have Kr:(times x:Int)=max x.mx 1:=by rw[times,if_pos h6,if_neg kF];omega
    have vb:=jG ks.weight
    have wj:(times x:Int)*(cut ks.weight:Int)≤4194560:=by rw[Int.mul_comm];exact nz vb Ac
    have Ks:0≤(times x:Int)*(cut ks.weight:Int):=rB _ _
    have iP:=vw (t:=times x) (a:=ks.weight) yp
    rw[Kr] at iP wj Ks
    refine oS wh (oZ cO ?_);refine eL cb (cR fun _ cZ=>?_);refine oM (oM ?_);refine oS (vc rfl rfl (by omega)) ?_;refine oS sD ?_;refine oS (ab (v':=.int .i64 (cut (1+times x*ks.weight):Nat)) (pg rfl rfl) (congrArg (Value.int .i64) iP)) ?_;refine oM (oA (oA (oZ cZ (aA ?_))));refine ?_;exact cr rfl (.tmp rfl (.tmp rfl (.nil))) ((by rw[iv];rfl))
  ·have Kr:(times x:Int)=1:=by rw[times,if_neg h6];rfl
   have vb:=jG ks.weight
   have wj:(times x:Int)*(cut ks.weight:Int)≤4194560:=by rw[Int.mul_comm];exact nz vb Ac
   have Ks:0≤(times x:Int)*(cut ks.weight:Int):=rB _ _
   have iP:=vw (t:=times x) (a:=ks.weight) yp
   rw[Kr] at iP wj Ks
   refine oS ik (oZ bL ?_);refine eL cb (cR fun _ dq=>?_);refine oM (oM ?_);refine oS (vc rfl rfl (by omega)) ?_;refine oS sD ?_;refine oS (ab (v':=.int .i64 (cut (1+times x*ks.weight):Nat)) (pg rfl rfl) (congrArg (Value.int .i64) iP)) ?_;refine oM (oA (oA (oZ dq (aA ?_))));refine ?_;exact cr rfl (.tmp rfl (.tmp rfl (.nil))) ((by rw[iv];rfl))
theorem vz:∀ (n:Nat)(x:Nd)(ks:F),ks.size<n→zi Tryz.prog 95 x ks:=by
 intro n
 induction n with
 | zero=>intro x ks h;omega
 | succ n ih=>exact fun x ks h ra rc re i i1 h1 h2=>Dd x ks (fun y gv hs=>ih y gv (by omega)) ra rc re i i1 h1 h2
theorem xG:∀ (n:Nat)(x:Nd)(ks:F),ks.size<n→zi Tryz.prog 87 x ks:=by
 intro n
 induction n with
 | zero=>intro x ks h;omega
 | succ n ih=>exact fun x ks h ra rc re i i1 h1 h2=>Bj x ks (fun y gv hs=>ih y gv (by omega)) ra rc re i i1 h1 h2
theorem nC (ra:Option Addr)(rc:Nat)(re:List Nd)(ey:∀ x∈re,-128≤x.op∧x.op<128):HL.Fn Tryz.prog 36 [.slice ra re.length rc] (fun w=>Rd En w (.slice ra re.length rc) re) [] (fun v _=>v = .bool (bz re)):=by
 refine aW Tryz.func36 rfl rfl rfl fun w0 hw=>?_
 have dr:=hw.sl
 have s3:=dr.le
 refine cR fun _ bI=>?_;refine oA (oZ bI (cR fun _ bJ=>?_));refine oM ?_;refine oS (bG (cs:=[_,_,_]) (vs:=[_]) rfl rfl (.cons rfl rfl rfl rfl rfl (.nil))) ?_;refine cB rfl rfl rfl fun b8=>?_;refine oA (oZ bJ (ah fun _ bK=>?_));refine cR fun _ bU=>?_;refine oM ?_;refine aX (Ox 260 b8 ra rc re 0 0 0 none 0 [] [] ey rfl (Nat.zero_le _) (by decide) (by decide) .nil) rfl rfl rfl (by exact .one) (fun w st=>⟨(cq.bj hw).out w st,St.di st (by exact c4.one) hw (ew.nil) (by decide)⟩) (fun v10 V8 nQ=>?_)
 rcases dV:iD re 260 0 [] 0 with _|⟨j,Uj⟩
 ·obtain rfl:v10 = .bool false:=by rw[dV] at nQ;exact nQ
  have hN:=Bf dV
  refine oS (aT rfl) ?_;refine oM ?_;refine oN ?_;refine oN ?_;refine oN ?_;refine oN ?_;refine oN ?_;refine oN ?_;refine oN ?_;refine oS sT (oZ bU ?_);refine cT (cR fun _ bT=>?_);refine oA (oZ bT (aA ?_));refine aj (?_);exact xR rfl rfl ((congrArg Value.bool hN.symm))
 ·obtain⟨Uk,sK,sO,tA,rfl,XJ⟩:v10 = .bool true∧∃ sK sO tA,V8=k8 149 b8 ra rc re j sK sO Uj::tA∧aG fR 1 4 (.slice sK Uj.length sO) Uj tA:=by rw[dV] at nQ;exact nQ
  subst Uk
  unfold k8
  refine oS (aT rfl) ?_;refine oM ?_;refine oY (oM ?_);refine oY ?_;refine oS sN ?_;refine oY ?_;refine oS sF ?_;refine oY ?_;refine oS sL ?_;refine oY (oM ?_);refine oY ?_;refine oS sC ?_;refine oY ?_
  by_cases hj:j≠re.length
  ·have hN:=FC dV hj
   refine oS N7 ?_;refine oS sP (oZ bU ?_);refine cT (cR fun _ bZ=>?_);refine oA (oZ bZ (aA ?_));refine aj (?_);exact xR rfl rfl ((congrArg Value.bool hN.symm))
  ·obtain rfl:j=re.length:=Decidable.not_not.1 hj
   obtain⟨x,ks,H4,hdp,Ul⟩:=Bg dV
   refine oS N8 ?_;refine oS sP (oZ bU ?_);refine eL bK (cR fun _ cj=>?_);refine oM ?_;refine ar (vz (ks.size+1) x ks (by omega) ra rc re 0 re.length ey H4) rfl rfl rfl (fun w st=>(cq.bj hw).out w st) (fun WH ue=>?_);subst ue
   refine oM ?_;refine oS sE ?_;refine oS sE (oA (oA (oZ cj (cR fun _ ck=>?_))));refine oM ?_;refine oS (rW rfl rfl) ?_;refine oA (oZ ck (aA ?_));refine ?_;exact xR rfl rfl ((congrArg Value.bool (by rw[Ul];exact decide_eq_decide.2 (by omega))))
theorem lN (ra:Option Addr)(rc:Nat)(re:List Nd)(ey:∀ x∈re,-128≤x.op∧x.op<128):HL.Fn Tryz.prog 29 [.slice ra re.length rc] (fun w=>Rd En w (.slice ra re.length rc) re) [] (fun v _=>v = .bool (bz re)):=by
 refine aW Tryz.func29 rfl rfl rfl fun w0 hw=>?_
 have dr:=hw.sl
 have s3:=dr.le
 refine cR fun _ bI=>?_;refine oA (oZ bI (cR fun _ bJ=>?_));refine oM ?_;refine oS (bG (cs:=[_,_,_]) (vs:=[_]) rfl rfl (.cons rfl rfl rfl rfl rfl (.nil))) ?_;refine cB rfl rfl rfl fun b8=>?_;refine oA (oZ bJ (ah fun _ bK=>?_));refine cR fun _ bU=>?_;refine oM ?_;refine aX (Kp 260 b8 ra rc re 0 0 0 none 0 [] [] ey rfl (Nat.zero_le _) (by decide) (by decide) .nil) rfl rfl rfl (by exact .one) (fun w st=>⟨(cq.bj hw).out w st,St.di st (by exact c4.one) hw (ew.nil) (by decide)⟩) (fun v10 V8 nQ=>?_)
 rcases dV:iD re 260 0 [] 0 with _|⟨j,Uj⟩
 ·obtain rfl:v10 = .bool false:=by rw[dV] at nQ;exact nQ
  have hN:=Bf dV
  refine oS (aT rfl) ?_;refine oM ?_;refine oN ?_;refine oN ?_;refine oN ?_;refine oN ?_;refine oN ?_;refine oN ?_;refine oN ?_;refine oS sT (oZ bU ?_);refine cT (cR fun _ bT=>?_);refine oA (oZ bT (aA ?_));refine aj (?_);exact xR rfl rfl ((congrArg Value.bool hN.symm))
 ·obtain⟨Uk,sK,sO,tA,rfl,XJ⟩:v10 = .bool true∧∃ sK sO tA,V8=k8 129 b8 ra rc re j sK sO Uj::tA∧aG fR 1 4 (.slice sK Uj.length sO) Uj tA:=by rw[dV] at nQ;exact nQ
  subst Uk
  unfold k8
  refine oS (aT rfl) ?_;refine oM ?_;refine oY (oM ?_);refine oY ?_;refine oS sN ?_;refine oY ?_;refine oS sF ?_;refine oY ?_;refine oS sL ?_;refine oY (oM ?_);refine oY ?_;refine oS sC ?_;refine oY ?_
  by_cases hj:j≠re.length
  ·have hN:=FC dV hj
   refine oS N7 ?_;refine oS sP (oZ bU ?_);refine cT (cR fun _ bZ=>?_);refine oA (oZ bZ (aA ?_));refine aj (?_);exact xR rfl rfl ((congrArg Value.bool hN.symm))
  ·obtain rfl:j=re.length:=Decidable.not_not.1 hj
   obtain⟨x,ks,H4,hdp,Ul⟩:=Bg dV
   refine oS N8 ?_;refine oS sP (oZ bU ?_);refine eL bK (cR fun _ cj=>?_);refine oM ?_;refine ar (xG (ks.size+1) x ks (by omega) ra rc re 0 re.length ey H4) rfl rfl rfl (fun w st=>(cq.bj hw).out w st) (fun WH ue=>?_);subst ue
   refine oM ?_;refine oS sE ?_;refine oS sE (oA (oA (oZ cj (cR fun _ ck=>?_))));refine oM ?_;refine oS (rW rfl rfl) ?_;refine oA (oZ ck (aA ?_));refine ?_;exact xR rfl rfl ((congrArg Value.bool (by rw[Ul];exact decide_eq_decide.2 (by omega))))
theorem OQ (ra:Option Addr)(rc:Nat)(re:List Nd)(ey:∀ x∈re,-128≤x.op∧x.op<128):HL.Fn Tryz.prog 37 [.slice ra re.length rc] (fun w=>Rd En w (.slice ra re.length rc) re) [] (fun v _=>v = .bool (ez re)):=by
 refine aW Tryz.func37 rfl rfl rfl fun w0 hw=>?_
 have dr:=hw.sl
 have s3:=dr.le
 refine cR fun _ bI=>?_;refine oA (oZ bI (ah fun _ bJ=>?_));refine cR fun _ bK=>?_;refine oM ?_;refine ar (nC ra rc re ey) rfl rfl rfl (fun w st=>(cq.bj hw).out w st) (fun v6 V4=>?_);subst V4
 cases hs:bz re
 ·refine oZ bK ?_;refine eL bJ (cR fun _ bU=>?_);refine oA (oZ bU (aA ?_));refine ?_;exact xR rfl rfl ((congrArg Value.bool (A1 hs).symm))
 ·refine oZ bK ?_;refine cT (cR fun _ bT=>?_);refine oM ?_;refine oS sC (oM (oZ bT (ai ?_)))
  refine aL (fun (j:Nat)=>j≤re.length∧∀ q (x:Nd),q<j→re[q]?=some x→¬ x.op=8) (fun (j:Nat)=>[(9,.int .i64 j)]) [(7,_),(8,_)] (fun (j:Nat)=>[]) (fun (j:Nat)=>re.length-j) 0 ⟨by omega,fun q x h=>by omega⟩ aH aH aP ?_
  rintro j ⟨hj,VV⟩
  refine cR fun _ bZ=>?_
  by_cases Ib:j<re.length
  ·obtain⟨x,hx⟩:∃ x,re[j]?=some x:=⟨_,List.getElem?_eq_getElem Ib⟩
   refine oS wg (oZ bZ (ah fun _ cj=>?_));refine gp cj (ah fun _ ck=>?_);refine ai (cR fun _ cQ=>?_);refine oS (au rfl rfl dr (by omega)) ?_;refine oS (aD rfl ((cq.bj hw).gx j hx rfl) (by rfl)) ?_;refine aB (l:=En zN) (by rw[gI];rfl) rfl fun b4=>?_;refine bf rfl rfl bY aS aS fE ?_;refine oZ cQ (cR fun _ bw=>?_);refine oS sF ?_;refine oS sL ?_
   by_cases h8:x.op=8
   ·refine oS (ij (h:=h8)) ?_;refine oZ bw ?_;refine cT (cR fun _ bF=>?_);refine oA (oZ bF (aA ?_));refine aw (aj (aj (aw (aj (?_)))))
    exact xR rfl rfl ((congrArg Value.bool (pZ hs (List.mem_of_getElem? hx) h8).symm))
   ·refine oS (ik (h:=h8)) ?_;refine oZ bw ?_;refine cF (ax (aq (xZ ck (ae ?_))));refine oS sD (oM (ak ?_));exact xI (j+1) ⟨by omega,xF VV hx h8⟩
  ·obtain rfl:j=re.length:=by omega
   refine oS wh (oZ bZ (ah fun _ bD=>?_));refine cF ?_;refine ay ?_;refine ad (ad (ag (xZ bJ (cR fun _ cb=>?_))));refine oA (oZ cb (aA ?_));refine ?_;exact xR rfl rfl ((congrArg Value.bool (Fs VV).symm))
end Go.Proofs.YtmompllplidphaaGreatDoor
namespace Go.Proofs.YtmompllplidphaaGreatDoor
open Go Go.HL Go.Proofs Go.HL.Kl Go.HL.Kl.Mc Go.HL.cm
def xA (bx:Nat)(ra:Option Addr)(rc rn:Nat)(X:fk)(S:Hp):Prop:=∃ (sa:Option Addr)(sc:Nat)(fa:Option Addr)(fc:Nat)(Ss Sf:Hp),S=(bx,.cells [.slice ra rn rc,.slice sa X.sets.length sc,.slice fa X.fol.length fc].toArray 86 (0,0))::(Sf++Ss)∧aG Ec 4 39 (.slice sa X.sets.length sc) X.sets Ss∧aG E3 3 90 (.slice fa X.fol.length fc) X.fol Sf
theorem xA.UE {bx:Nat}{ra:Option Addr}{rc rn:Nat}{X:fk}{S H:Hp}{κ:Cx}(h:xA bx ra rc rn X S)(hi:c4 S H):NL κ H ⟨bx,0,none⟩ (.slice ra rn rc):=by
 obtain⟨sa,sc,fa,fc,Ss,Sf,rfl,_,_⟩:=h
 exact (aI.own (hi _ List.mem_cons_self)).iU (j:=0) rfl rfl
theorem Hy (bx:Nat)(ra:Option Addr)(rc rn:Nat)(X:fk)(S:Hp)(h:xA bx ra rc rn X S)(a b:Sp)(hl:X.fol.length≤24):HL.Fn Tryz.prog 134 [.pointer (some ⟨bx,0,none⟩),.agg (E3 (a)).toArray,.agg (E3 (b)).toArray] (fun _=>True) S (fun _ S'=>xA bx ra rc rn (X.join a b) S'):=by
 obtain⟨sa,sc,fa,fc,Ss,Sf,rfl,hs,hf⟩:=h
 refine ((Bi bx ra rc rn sa sc X.sets.length fa fc X.fol Sf hf a b hl).frame (R:=Ss)).weaken (fun _ h=>h) fun v S' ⟨S1,h1,Ip,h2,h3⟩=>?_;subst h2
 exact⟨sa,sc,fa,fc,Ss,Ip,h1,hs,h3⟩
theorem qy (bx:Nat)(ra:Option Addr)(rc rn:Nat)(X:fk)(S:Hp)(h:xA bx ra rc rn X S)(a b:Pt)(hl:X.fol.length≤24):HL.Fn Tryz.prog 99 [.pointer (some ⟨bx,0,none⟩),.agg (dm (a)).toArray,.agg (dm (b)).toArray] (fun _=>True) S (fun v S'=>v = .agg (dm (ji a b)).toArray∧xA bx ra rc rn (X.join a.l0 b.f0) S'):=by
 obtain⟨sa,sc,fa,fc,Ss,Sf,rfl,hs,hf⟩:=h
 refine ((Ui bx ra rc rn sa sc X.sets.length fa fc X.fol Sf hf a b hl).frame (R:=Ss)).weaken (fun _ h=>h) fun v S' ⟨S1,h1,hv,Ip,h2,h3⟩=>?_;subst h2
 exact⟨hv,sa,sc,fa,fc,Ss,Ip,h1,hs,h3⟩
def Br (P:Program)(n:Nd)(ks:F):Prop:=∀ (bx:Nat)(ra:Option Addr)(rc:Nat)(re:List Nd)(i i':Nat)(X:fk)(S:Hp),xA bx ra rc re.length X S→Part re (.nd n ks .nil) i i'→bz re=true→(∀ x∈re,-128≤x.op∧x.op<128)→X.sets.length+eM n ks≤20→X.fol.length=X.sets.length →
 HL.Fn P 39 [.pointer (some ⟨bx,0,none⟩),.int .i64 i] (fun w=>Rd En w (.slice ra re.length rc) re∧ew (keys S) (.slice ra re.length rc)) S (fun v S'=>v = .agg (dm ((aZ n ks X).1)).toArray∧xA bx ra rc re.length (aZ n ks X).2 S')
theorem xS (ra:Option Addr)(rc:Nat)(re:List Nd)(ey:∀ x∈re,-128≤x.op∧x.op<128)(iC:bz re=true)(x:Nd)(ks:F)(i i1:Nat)(hp:Part re (.nd x ks .nil) i i1):HL.Fn Tryz.prog 100 [.slice ra re.length rc,.int .i64 i] (fun w=>Rd En w (.slice ra re.length rc) re) [] (fun v _=>v = .int .i64 i1):=by
 refine aW Tryz.func100 rfl rfl rfl fun w0 hw=>?_
 have B4:=(List.getElem?_eq_some_iff.1 hp.head.1).1
 have dr:=hw.sl
 have s3:=dr.le
 refine cR fun _ bI=>?_;refine oA (oZ bI (ah fun _ bJ=>?_));refine cR fun _ bK=>?_;refine oM ?_;refine ar (nC ra rc re ey) rfl rfl rfl (fun _ st=>(cq.bj hw).out _ st) (fun v8 VT=>?_)
 rw[iC] at VT
 subst VT;refine oS (aT rfl) ?_;refine oM ?_;refine oY (oM ?_);refine oY ?_;refine oS (bH rfl rfl (by omega)) ?_;refine oS sP (oM ?_);refine oY (oM ?_);refine oY (oM ?_);refine oY ?_;refine oS sC ?_;refine oY ?_;refine oS (EH rfl rfl (by omega)) ?_;refine oS sP (oZ bK ?_);refine eL bJ (cR fun _ bU=>?_);refine oM (oM ?_);refine ar (vz (ks.size+1) x ks (Nat.lt_succ_self _) ra rc re i i1 ey hp) rfl rfl rfl (fun _ st=>(cq.bj hw).out _ st) (fun WH ue=>?_)
 subst ue;refine oM ?_;refine oS sE ?_;refine oS sE (oA (oA (oZ bU (cR fun _ bT=>?_))));refine oM (oA (oZ bT (aA ?_)));refine ?_;exact xR rfl rfl (rfl)
set_option maxHeartbeats 1000000 in
theorem OY (y:Nd)(js:F)(ih:Br Tryz.prog y js)(hwf:(F.nd y js .nil).wf)(bx:Nat)(ra:Option Addr)(rc:Nat)(re:List Nd)(i i1:Nat)(X:fk)(S:Hp)(hP:xA bx ra rc re.length X S)(hp:Part re (.nd y js .nil) i i1)(iC:bz re=true)(ey:∀ x∈re,-128≤x.op∧x.op<128)(mn:Nat)(mx:Int)(wm:mn≤255)(kF:mx = -1∨((mn:Int)≤mx∧mx≤255))(hc:X.sets.length+(if mx<0 then mn+1 else mx.toNat)*eM y js≤20)(mH:X.fol.length=X.sets.length):HL.Fn Tryz.prog 97 [.pointer (some ⟨bx,0,none⟩),.int .i64 i,.int .i64 mn,.int .i64 mx] (fun w=>Rd En w (.slice ra re.length rc) re∧ew (keys S) (.slice ra re.length rc)) S (fun v S'=>∃ S2,HSub S' S2∧v = .agg (dm ((py (aZ y js) mn mx X).1)).toArray∧xA bx ra rc re.length (py (aZ y js) mn mx X).2 S2):=by
 refine aW Tryz.func97 rfl rfl rfl fun w0 hw=>?_
 have hA:=nA hwf
 have hL:=Jc hA X mH
 have QT:∀ k,k≤mn→k*eM y js≤mn*eM y js:=fun k hk=>Nat.mul_le_mul_right _ hk
 have hmc:mn*eM y js≤(if mx<0 then mn+1 else mx.toNat)*eM y js:=Nat.mul_le_mul_right _ (by split <;> omega)
 refine cR fun _ bI=>?_;refine aB (l:=dm bN) (by rfl) rfl fun b8=>?_;refine oZ bI (cR fun _ bJ=>?_);refine ar (jI) rfl rfl rfl (fun _ _=>trivial) (fun v12 afB=>?_);subst afB
 refine aB (l:=dm bN) (by rfl) rfl fun b9=>?_;refine bf rfl rfl bY aS aS fE ?_;refine oZ bJ (ah fun _ bK=>?_);refine cR fun _ bU=>?_;refine oM (oM (oZ bU (ai ?_)));refine cY (fun (k:Nat)(Sk:Hp)=>k≤mn∧xA bx ra rc re.length (iterM (fun c=>cU c (aZ y js)) k bu X).2 Sk) (fun (k:Nat)(Sk:Hp)=>[(14,.int .i64 k)]) [(0,_),(1,_),(2,_),(3,_),(8,_),(9,_),(13,_)] (fun (k:Nat)(Sk:Hp)=>(b9,.cells (dm ((iterM (fun c=>cU c (aZ y js)) k bu X).1)).toArray 93 (0,0))::(b8,.cells (dm bN).toArray 93 (0,0))::Sk) (fun (k:Nat)(Sk:Hp)=>mn-k) 0 S ⟨Nat.zero_le _,hP⟩ aH aH aP ?_
 rintro k Sk ⟨hk,Wk⟩
 obtain⟨CP,z8⟩:=hL k
 have afC:=QT k hk
 refine cR fun _ bT=>?_;refine oS (aF rfl rfl) ?_;refine oZ bT (ah fun _ bZ=>?_);refine cx rfl (fun cH=>?_) (fun cH=>?_)
 ·have ZK:=QT (k+1) (by omega)
  rw[Nat.succ_mul] at ZK
  refine ax (xZ bZ (ah fun _ cj=>?_));refine ai ?_;refine aK ([(b9,.cells (dm ((iterM (fun c=>cU c (aZ y js)) k bu X).1)).toArray 93 (0,0))]) (fun i=>Nat.beq i 6) ?_;refine eP 0 rfl sM ?_;refine eK 1 rfl (aD rfl (aI.aO (.own aV)) aS) ?_;refine eP 2 rfl sM ?_;refine eP 3 rfl sM (eO 4 rfl ?_);refine aX (ih bx ra rc re i i1 _ _ Wk hp iC ey (by omega) (by omega)) rfl rfl rfl (bh) (fun w st=>⟨(cq.old hw.1 hw.2).out w st,St.di st (by exact yn) hw.1 hw.2 (by decide)⟩) (fun v20 S20 ⟨Cr,afD⟩=>?_);subst Cr
  have apc:=(hA _ z8)
  refine oX (eO 5 rfl ?_);refine aX (qy bx ra rc re.length _ _ afD (iterM (fun c=>cU c (aZ y js)) k bu X).1 _ (by omega)) rfl rfl rfl (bh) (fun _ _=>trivial) (fun v21 S21 ⟨UF,afE⟩=>?_);subst UF
  refine oX (eO 6 rfl ?_);refine bf rfl rfl bY aS aS fE ?_;refine ak ?_;refine cE rfl ?_;refine cw (by kernel_rfl) ?_;refine aq (xZ cj (ae ?_));refine oS sD (oM (ak ?_))
  rw[show ji (iterM (fun c=>cU c (aZ y js)) k bu X).1 ((aZ y js) (iterM (fun c=>cU c (aZ y js)) k bu X).2).1=(iterM (fun c=>cU c (aZ y js)) (k+1) bu X).1 by rw[jv];rfl]
  exact xI (k+1,_) ⟨by omega,by rw[jv];exact afE⟩
 ·obtain rfl:mn=k:=by omega
  refine ay ?_;refine ad (ad (ag (xZ bK (ah fun _ ck=>?_))));refine cR fun _ cQ=>?_;refine oM ?_
  by_cases jU:mx<0
  ·rw[if_pos jU,Nat.succ_mul] at hc
   refine oS (wg (h:=jU)) ?_;refine oZ cQ ?_;refine cT (cR fun _ bw=>?_);refine oM (oM ?_);refine aX (ih bx ra rc re i i1 _ _ Wk hp iC ey (by omega) (by omega)) rfl rfl rfl (bh) (fun w st=>⟨(cq.old hw.1 hw.2).out w st,St.di st (by exact yn) hw.1 hw.2 (by decide)⟩) (fun v27 S27 ⟨afF,afG⟩=>?_);subst afF
   have ape:=(hA _ z8)
   refine aB (l:=dm bN) (by rfl) rfl fun gT=>?_;refine bf rfl rfl bY aS aS fE ?_;refine oZ bw (cR fun _ bF=>?_);refine oM ?_;refine oS sF ?_;refine oS (aQ rfl rfl (by omega)) ?_;refine oS (aD rfl ((aI.aO (aI.l3 aV (r6 (i:=0) (by omega) (by omega))))) aS) ?_;refine oS sF ?_;refine oS (aQ rfl rfl (by omega)) ?_;refine oS (aD rfl ((aI.aO (aI.l3 aV (r5 (i:=0) (by omega) (by omega))))) aS) ?_;refine aX (Hy bx ra rc re.length _ _ afG _ _ (by omega)) rfl rfl rfl (bh) (fun _ _=>trivial) (fun v35 S35 afH=>?_);refine oZ bF (ah fun _ bD=>?_);refine aK ([(gT,.cells (dm (((aZ y js) (iterM (fun c=>cU c (aZ y js)) mn bu X).2).1)).toArray 93 (0,0)),(b9,.cells (dm ((iterM (fun c=>cU c (aZ y js)) mn bu X).1)).toArray 93 (0,0))]) (fun i=>false) ?_;refine eP 0 rfl sM ?_;refine eK 1 rfl (aD rfl (aI.aO (.own aV)) aS) ?_;refine eK 3 rfl (aD rfl (aI.aO (.own aV)) aS) ?_;refine eO 2 rfl ?_;refine ar (jI) rfl rfl rfl (fun _ _=>trivial) (fun v38 Rw=>?_);subst Rw
   refine oX (eO 4 rfl ?_);refine ar (DD bu ((aZ y js) (iterM (fun c=>cU c (aZ y js)) mn bu X).2).1) rfl rfl rfl (fun _ _=>trivial) (fun v40 Tl=>?_);subst Tl
   refine oX (eO 5 rfl ?_);refine aX (qy bx ra rc re.length _ _ afH (iterM (fun c=>cU c (aZ y js)) mn bu X).1 _ (by simp only[fk.join,ef];omega)) rfl rfl rfl (bh) (fun _ _=>trivial) (fun v41 S41 ⟨Rx,afJ⟩=>?_);subst Rx
   refine oX (eO 6 rfl ?_);refine bf rfl rfl bY aS aS fE ?_;refine oX (eZ bD (aA ?_));refine aj (?_);exact cr rfl (.agg inferInstance inferInstance rfl (aI.aO (.own aV)) aS (.nil)) (⟨S41,by exact aP,by rw[pA jU];rfl,by rw[pA jU];exact afJ⟩)
  ·rw[if_neg jU] at hc
   have apf:mn*eM y js+(mx-mn).toNat*eM y js=mx.toNat*eM y js:=by rw[← Nat.add_mul];congr 1;omega
   refine oS (wh (h:=jU)) ?_;refine oZ cQ ?_;refine eL ck (cR fun _ cb=>?_);refine ar (jI) rfl rfl rfl (fun _ _=>trivial) (fun v42 Kb=>?_);subst Kb
   refine aB (l:=dm bN) (by rfl) rfl fun M9=>?_;refine bf rfl rfl bY aS aS fE ?_;refine oZ cb (ah fun _ bL=>?_);refine cR fun _ bQ=>?_;refine oM (oM ?_);refine oS sU (oM (oZ bQ (ai ?_)));refine cY (fun (k:Nat)(Sk:Hp)=>k≤(mx-mn).toNat∧xA bx ra rc re.length (iterM (fb (aZ y js)) k bu (iterM (fun c=>cU c (aZ y js)) mn bu X).2).2 Sk) (fun (k:Nat)(Sk:Hp)=>[(46,.int .i64 k)]) [(0,_),(1,_),(8,_),(9,_),(11,_),(45,_)] (fun (k:Nat)(Sk:Hp)=>(M9,.cells (dm ((iterM (fb (aZ y js)) k bu (iterM (fun c=>cU c (aZ y js)) mn bu X).2).1)).toArray 93 (0,0))::(b9,.cells (dm ((iterM (fun c=>cU c (aZ y js)) mn bu X).1)).toArray 93 (0,0))::(b8,.cells (dm bN).toArray 93 (0,0))::Sk) (fun (k:Nat)(Sk:Hp)=>(mx-mn).toNat-k) 0 Sk ⟨Nat.zero_le _,Wk⟩ aH aH aP ?_
   rintro k Sk ⟨hk,Wk⟩
   obtain⟨X2,Wl⟩:=Jd hA (iterM (fun c=>cU c (aZ y js)) mn bu X).2 z8 k
   have afC:k*eM y js≤(mx-mn).toNat*eM y js:=Nat.mul_le_mul_right _ hk
   refine cR fun _ cO=>?_;refine oS (aF rfl rfl) ?_;refine oZ cO (ah fun _ df=>?_);refine cx rfl (fun UG=>?_) (fun UG=>?_)
   ·have ZK:=RM (n:=eM y js) (show k<(mx-mn).toNat by omega)
    refine ax (xZ df (ah fun _ cZ=>?_));refine ai ?_;refine aK ([(M9,.cells (dm ((iterM (fb (aZ y js)) k bu (iterM (fun c=>cU c (aZ y js)) mn bu X).2).1)).toArray 93 (0,0))]) (fun i=>Nat.beq i 8) ?_;refine eP 1 rfl sM ?_;refine eP 2 rfl sM ?_;refine eP 3 rfl sM ?_;refine eK 5 rfl (aD rfl (aI.aO (.own aV)) aS) ?_;refine eO 0 rfl ?_;refine ar (jI) rfl rfl rfl (fun _ _=>trivial) (fun v48 UH=>?_);subst UH
    refine oX (eO 4 rfl ?_);refine aX (ih bx ra rc re i i1 _ _ Wk hp iC ey (by omega) (by omega)) rfl rfl rfl (bh) (fun w st=>⟨(cq.old hw.1 hw.2).out w st,St.di st (by exact yn) hw.1 hw.2 (by decide)⟩) (fun v52 GH ⟨uC,afK⟩=>?_);subst uC
    have aph:=(hA _ Wl)
    refine oX (eO 6 rfl ?_);refine aX (qy bx ra rc re.length _ _ afK _ (iterM (fb (aZ y js)) k bu (iterM (fun c=>cU c (aZ y js)) mn bu X).2).1 (by omega)) rfl rfl rfl (bh) (fun _ _=>trivial) (fun v54 S54 ⟨afL,afM⟩=>?_);subst afL
    refine oX (eO 7 rfl ?_);refine ar (DD bu _) rfl rfl rfl (fun _ _=>trivial) (fun v55 RF=>?_);subst RF
    refine oX (eO 8 rfl ?_);refine bf rfl rfl bY aS aS fE ?_;refine ak ?_;refine cE rfl ?_;refine cw (by kernel_rfl) ?_;refine aq (xZ cZ (ae ?_));refine oS sD (oM (ak ?_))
    rw[show ib bu (ji ((aZ y js) (iterM (fb (aZ y js)) k bu (iterM (fun c=>cU c (aZ y js)) mn bu X).2).2).1 (iterM (fb (aZ y js)) k bu (iterM (fun c=>cU c (aZ y js)) mn bu X).2).1)=(iterM (fb (aZ y js)) (k+1) bu (iterM (fun c=>cU c (aZ y js)) mn bu X).2).1 by rw[jv];rfl]
    exact xI (k+1,_) ⟨by omega,by rw[jv];exact afM⟩
   ·obtain rfl:k=(mx-mn).toNat:=by omega
    refine ay ?_;refine ad (ad (ag (xZ bL (cR fun _ dq=>?_))));refine oM ?_;refine oS (aD rfl (aI.aO (.own aV)) aS) ?_;refine oS (aD rfl (aI.aO (.own aV)) aS) ?_;refine aX (qy bx ra rc re.length _ _ Wk (iterM (fun c=>cU c (aZ y js)) mn bu X).1 (iterM (fb (aZ y js)) (mx-mn).toNat bu (iterM (fun c=>cU c (aZ y js)) mn bu X).2).1 (by omega)) rfl rfl rfl (bh) (fun _ _=>trivial) (fun v60 KU ⟨TV,afN⟩=>?_);subst TV
    refine bf rfl rfl bY aS aS fE ?_;refine oZ dq (aA ?_);refine ?_;exact cr rfl (.agg inferInstance inferInstance rfl (aI.aO (.own aV)) aS (.nil)) (⟨KU,by exact aP,by rw[pB jU];rfl,by rw[pB jU];exact afN⟩)
theorem UI (y:Nd)(js:F)(ih:Br Tryz.prog y js)(hwf:(F.nd y js .nil).wf)(bx:Nat)(ra:Option Addr)(rc:Nat)(re:List Nd)(i i1:Nat)(X:fk)(S:Hp)(hP:xA bx ra rc re.length X S)(hp:Part re (.nd y js .nil) i i1)(iC:bz re=true)(ey:∀ x∈re,-128≤x.op∧x.op<128)(mn:Nat)(mx:Int)(wm:mn≤255)(kF:mx = -1∨((mn:Int)≤mx∧mx≤255))(hc:X.sets.length+(if mx<0 then mn+1 else mx.toNat)*eM y js≤20)(mH:X.fol.length=X.sets.length):HL.Fn Tryz.prog 97 [.pointer (some ⟨bx,0,none⟩),.int .i64 i,.int .i64 mn,.int .i64 mx] (fun w=>Rd En w (.slice ra re.length rc) re∧ew (keys S) (.slice ra re.length rc)) S (fun v S'=>v = .agg (dm ((py (aZ y js) mn mx X).1)).toArray∧xA bx ra rc re.length (py (aZ y js) mn mx X).2 S'):=
 HL.Fn.sub (OY y js ih hwf bx ra rc re i i1 X S hP hp iC ey mn mx wm kF hc mH) fun v S' ⟨S2,h1,h2⟩=>⟨S2,h1,h2⟩
end Go.Proofs.YtmompllplidphaaGreatDoor
namespace Go.HL.Kl.Mc
open Go Go.HL Go.HL.Kl
noncomputable def ann (m:List In):Bool:=@decide (MOk m) (Classical.propDecidable _)
def MUp (m:List In)(q:Nat):Prop:=∀ i t,i<q→m[i]?=some t→J5 (m.length-1) t∧(t.op≤3→i+1<m.length)
def aiP (t:In):In:=⟨t.op,if t.op=1 then t.set else 0,if t.op=4∨t.op=5 then t.x else 0,if t.op=5 then t.y else 0⟩
def F.app:F→F→F
 | .nil,g=>g
 | .nd x ks r,g=>.nd x ks (r.app g)
theorem F.EJ:∀ f g:F,(f.app g).num=f.num+g.num
 | .nil,g=>by simp[F.app,F.num]
 | .nd x ks r,g=>by simp only[F.app,F.num,F.EJ r g];omega
theorem F.BQ:∀ f g:F,(f.app g).flat=f.flat++g.flat
 | .nil,g=>by simp[F.app,F.flat]
 | .nd x ks r,g=>by simp[F.app,F.flat,F.BQ r g]
theorem F.BR:∀ f g:F,(f.app g).size=f.size+g.size
 | .nil,g=>by simp[F.app,F.size]
 | .nd x ks r,g=>by simp only[F.app,F.size,F.BR r g];omega
theorem F.MD:∀ {f g:F},f.wf→g.wf→(f.app g).wf
 | .nil,g,_,h=>h
 | .nd x ks r,g,⟨a,b,c,d⟩,h=>⟨a,b,c,F.MD d h⟩
theorem Part.down {re:List Nd}{y:Nd}{js r:F}{p i':Nat}(h:Part re (.nd y js r) p i'):Part re (js.app r) (p+1) i':=by
 obtain⟨_,h1,h2⟩:=h.head
 have hl:=h.len
 simp only[F.size] at hl
 exact⟨F.MD h1.wf h2.wf,by rw[h1.flat,h2.flat,F.BQ,List.append_assoc],by rw[F.BR];omega,h.le⟩
theorem F.yG {f:F}(h:f.num=0):f = .nil:=by
 cases f with
 | nil=>rfl
 | nd x ks r=>simp[F.num] at h
def Wq (l:List Bool)(i:Nat):Bool:=l.getD i false
def orF (a b:List Bool)(i:Nat):Bool:=Wq a i||Wq b i
def orL (a b:List Bool):List Bool:=(List.range a.length).map (orF a b)
def Vz (a b:List Bool)(k:Nat):Bool:=(List.range k).any fun i=>Wq b i && !Wq a i
def akJ (a b:List Bool):Bool:=Vz a b a.length
def cf (l:List Bool):Nat:=(List.range l.length).countP fun i=>!Wq l i
structure aqn (w:List UInt8)(s:Cl)(fr:List Bool)(j:Nat)(out:List Bool):Prop where
 len:out.length=w.length+1
 get:∀ q:Nat,out[q]?=some true↔∃ p,p<j∧q=p+1∧fr[p]?=some true∧∃ b,w[p]?=some b∧s.getLsbD b.toNat=true
def ag8 (N:Nat)(S:Nat→Prop)(vf:Value)(fr:List Bool)(v:Value)(S':Hp):Prop:=
 ∃ (a:Option Addr)(c:Nat)(l:List Bool),v = .slice a l.length c∧IsS l N S∧∀ W:World,(∀ b o,(b,o)∈S'→W.heap[b]?=some o)→Rd fR W vf fr→Rd fR W v l
def akK (P:Program)(fn:Nat)(w:List UInt8)(x:Nd)(ks:F):Prop:=∀ (ra:Option Addr)(rc:Nat)(re:List Nd)(ta:Option Addr)(tc i i':Nat)(fa:Option Addr)(fc:Nat)(fr:List Bool)(S:Nat→Prop),
 (∀ x∈re,-128≤x.op∧x.op<128)→(∀ x∈re,¬ x.op=8)→w.length≤1000000→Part re (.nd x ks .nil) i i'→IsS fr w.length S→(∀ p,S p→p≤w.length) →
 Fn P fn [.slice ra re.length rc,.int .i64 i,.slice ta w.length tc,.slice fa fr.length fc] (fun W=>Rd En W (.slice ra re.length rc) re∧Rd Eb W (.slice ta w.length tc) w∧Rd fR W (.slice fa fr.length fc) fr) [] (ag8 w.length (img (fw w x ks) S) (.slice fa fr.length fc) fr)
def RdC (vf:Value)(fr:List Bool)(v:Value)(l:List Bool)(S:Hp):Prop:=∀ W:World,(∀ b o,(b,o)∈S→W.heap[b]?=some o)→Rd fR W vf fr→Rd fR W v l
end Go.HL.Kl.Mc
