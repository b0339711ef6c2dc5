/- Part of the proofs over this seat: see the text that holds the theorem. Conditions: each theorem bears its own. -/
import Derived.Test.YtmompllplidphaaGreatDoorHTZ
import Derived.Test.YtmompllplidphaaGreatDoorGRW4Z
import Derived.Test.YtmompllplidphaaGreatDoorSM35Z
import Derived.Test.YtmompllplidphaaGreatDoorGSC1Z
import Derived.Test.YtmompllplidphaaGreatDoorMC9Z
import Derived.Test.YtmompllplidphaaGreatDoorGSW2Z
import Derived.Test.YtmompllplidphaaGreatDoorGSN4Z
namespace Go.Proofs.YtmompllplidphaaGreatDoor
open Go Go.HL Go.Proofs Go.HL.Kl Go.HL.Kl.Mc Go.HL.cm
set_option maxHeartbeats 4000000 in
theorem GJ (K:Nat)(na:Option Addr)(nc:Nat)(nr:List (Sl Nat))(ea:Option Addr)(ec:Nat)(ends:List Bool)(hW:nW (nr.map Sl.xs) ends K)(hN:nr.length≤1048577)(bZ:K≤256):HL.Fn Tryz.prog 35 [.agg [.slice na nr.length nc,.slice ea ends.length ec].toArray] (WdR K na nc nr ea ec ends) [] (fun v S'=>∃ (L:List Bool)(a:Option Addr)(c:Nat),v = .slice a L.length c∧aG fR 1 4 (.slice a L.length c) L S'∧l6 (nr.map Sl.xs) ends L):=by
 refine aW Tryz.func35 rfl rfl rfl fun w0 hw=>?_
 have oR:=hw.rn.sl
 have B3:=hw.re.sl
 have kH:=hW.len
 rw[List.length_map] at kH
 refine cR fun _ bI=>?_;refine cB rfl rfl rfl fun b1=>?_;refine oA (oZ bI (cR fun _ bJ=>?_));refine oS sF ?_;refine oS sL ?_;refine oS sC ?_;refine lD (E:=fR) (zx:=false) (n:=ends.length) rfl rfl rfl (by omega) (by omega) rfl fun gT V8 UM=>?_;refine oA (oZ bJ (cR fun _ bK=>?_));refine oM ?_;refine oS sF ?_;refine oS sL ?_;refine Rk UM (cq.bj hw.re) (by simp) rfl rfl (bh) rfl fun oT Db=>?_;refine oZ bK (ah fun _ bU=>?_);refine cR fun _ bT=>?_;refine oA (oZ bT (ai ?_));refine dt (fun (mo:Bool)(L:List Bool)(SL:Hp)=>aG fR 1 4 (.slice (some ⟨gT,0,none⟩) ends.length ends.length) L SL∧xV (nr.map Sl.xs) ends K L L 0 0 false∧(mo=false→l6 (nr.map Sl.xs) ends L)) (fun (mo:Bool)(L:List Bool)(SL:Hp)=>[(4,.bool mo)]) [(1,_),(2,_),(3,_)] (fun (mo:Bool)(L:List Bool)(SL:Hp)=>(b1,.cells [.slice na nr.length nc,.slice ea ends.length ec].toArray 79 (0,0))::SL) (fun (mo:Bool)(L:List Bool)(SL:Hp)=>2*dead L+(if mo=true then 1 else 0)) true ends oT ⟨Db,xV.init (by rw[List.length_map];exact kH),fun h=>by cases h⟩ aH aH aP ?_
 rintro mo L SL ⟨hL,hA,LF⟩
 refine ah fun _ bZ=>?_;refine cR fun _ cj=>?_
 by_cases Wm:mo=true
 ·refine oS (ab (v':=.bool true) (ba rfl) (by rw[Wm])) ?_;refine oZ cj ?_;refine gp bZ (ai (cR fun _ ck=>?_));refine oA (oZ ck (cR fun _ cQ=>?_));refine oA (oZ cQ (ai ?_));refine fM (fun (q:Nat)(Ng:Bool)(L2:List Bool)(S2:Hp)=>q≤ends.length∧xV (nr.map Sl.xs) ends K L L2 q 0 Ng∧aG fR 1 4 (.slice (some ⟨gT,0,none⟩) ends.length ends.length) L2 S2) (fun (q:Nat)(Ng:Bool)(L2:List Bool)(S2:Hp)=>[(4,.bool Ng),(5,.int .i64 q)]) [(1,_),(2,_),(3,_),(15,_)] (fun (q:Nat)(Ng:Bool)(L2:List Bool)(S2:Hp)=>(b1,.cells [.slice na nr.length nc,.slice ea ends.length ec].toArray 79 (0,0))::S2) (fun (q:Nat)(Ng:Bool)(L2:List Bool)(S2:Hp)=>ends.length-q) 0 false L SL ⟨Nat.zero_le _,hA,hL⟩ aH aH aP ?_
  rintro q Ng L2 S2 ⟨hq,Lx,hL2⟩
  refine ah fun _ bw=>?_;refine cR fun _ bF=>?_;refine oM (oM ?_);refine oS sC ?_
  by_cases Ha:q<ends.length
  ·obtain⟨s,tC⟩:∃ s,nr[q]?=some s:=gE
   have jr:=List.mem_of_getElem? tC
   obtain⟨hsK,gk⟩:=hW.at_ tC
   have F1:eA (.slice s.a s.xs.length s.c) s.xs.length:=(hw.rr s jr).sl
   refine oS (ab (v':=.bool true) (aF rfl rfl) (congrArg Value.bool (decide_eq_true (by omega)))) ?_;refine oZ bF ?_;refine gp bw (ah fun _ bD=>?_);refine ai (cR fun _ cb=>?_);refine oA (oZ cb (ai ?_));refine fM (fun (k:Nat)(O0:Bool)(L3:List Bool)(S3:Hp)=>k≤K∧xV (nr.map Sl.xs) ends K L L3 q k O0∧aG fR 1 4 (.slice (some ⟨gT,0,none⟩) ends.length ends.length) L3 S3) (fun (k:Nat)(O0:Bool)(L3:List Bool)(S3:Hp)=>[(4,.bool O0),(6,.int .i64 k)]) [(1,_),(2,_),(3,_),(5,_),(15,_),(16,_),(17,_),(18,_),(19,_)] (fun (k:Nat)(O0:Bool)(L3:List Bool)(S3:Hp)=>(b1,.cells [.slice na nr.length nc,.slice ea ends.length ec].toArray 79 (0,0))::S3) (fun (k:Nat)(O0:Bool)(L3:List Bool)(S3:Hp)=>K-k) 0 Ng L2 S2 ⟨Nat.zero_le _,Lx,hL2⟩ aH aH aP ?_
   rintro k O0 L3 S3 ⟨hk,QQ,O1⟩
   have X2:=QQ.len
   rw[List.length_map] at X2
   have hs3:=O1.sl
   rw[X2,← kH] at hs3
   obtain⟨lq,O2⟩:∃ b,L3[q]?=some b:=gE
   refine ah fun _ bL=>?_;refine cR fun _ bQ=>?_;refine oM ?_;refine oS sF ?_;refine oS sL (oM ?_);refine oS (au rfl rfl oR (by omega)) ?_;refine oS (az rfl ((cq.bj hw.rn).ld (u:=.slice s.a s.xs.length s.c) q 0 tC rfl (by decide) (by omega))) ?_;refine oS sC ?_
   by_cases z7:k<K
   ·obtain⟨afS,apo⟩:=gk k z7
    obtain⟨lx,CM⟩:∃ b,L3[nx (nr.map Sl.xs) q k]?=some b:=gE
    refine oS (ab (v':=.bool true) (aF rfl rfl) (congrArg Value.bool (decide_eq_true (by omega)))) ?_;refine oM ?_;refine oY (oM ?_);refine oY (oM ?_);refine oY ?_;refine oS (au rfl rfl hs3 (by omega)) ?_;refine oY ?_
    by_cases IC:lq=true
    ·refine oS (ab (v':=.bool true) (az rfl ((O1.aU aM).ld q 0 O2 rfl (by decide) (by omega))) (by rw[IC])) ?_;refine oY ?_;refine oS (aT rfl) ?_;refine oS sT (oZ bQ ?_);refine cF ?_;refine ay ?_;refine ad (ad (ag (aq (xZ bD (ae (oM ?_))))));refine oS sD (oA (ak ?_));exact xI (q+1,O0,L3,S3) ⟨by omega,QQ.row (.inr (by rw[O2,IC])),O1⟩
    ·refine oS (ab (v':=.bool false) (az rfl ((O1.aU aM).ld q 0 O2 rfl (by decide) (by omega))) (by rw[Bool.not_eq_true] at IC;rw[IC])) ?_;refine oY ?_;refine oS (aT rfl) ?_;refine oS sT (oZ bQ ?_);refine gp bL (ah fun _ cO=>?_);refine ai (cR fun _ df=>?_);refine oM ?_;refine oS sF ?_;refine oS sL (oM ?_);refine oS (au rfl rfl oR (by omega)) ?_;refine oS (az rfl ((cq.bj hw.rn).ld (u:=.slice s.a s.xs.length s.c) q 0 tC rfl (by decide) (by omega))) ?_;refine oM ?_;refine oS (au rfl rfl F1 (by omega)) ?_;refine oS (az rfl ((cq.bj (show Rd jo w0 (.slice s.a s.xs.length s.c) s.xs from hw.rr s jr)).ld k 0 afS rfl (by decide) (by omega))) ?_;refine oS (au rfl rfl hs3 (by omega)) ?_
     by_cases LG:lx=true
     ·refine oS (ab (v':=.bool true) (az rfl ((O1.aU aM).ld (nx (nr.map Sl.xs) q k) 0 CM rfl (by decide) (by omega))) (by rw[LG])) ?_;refine oZ df ?_;refine cT (cR fun _ cZ=>?_);refine oM (oM ?_);refine oS (au rfl rfl hs3 (by omega)) ?_;refine dp q true O1 bh rfl rfl rfl (by omega) (by omega) fun GH yQ=>?_;refine oZ cZ (ae (oA (ak (aq (xZ cO (ae (oM ?_)))))));refine oS sD (oA (ak ?_));exact xI (k+1,true,L3.set q true,GH) ⟨by omega,QQ.set hW (by rw[List.length_map];omega) z7 (by rw[O2];simpa using IC) (by rw[CM,LG]),yQ⟩
     ·refine oS (ab (v':=.bool false) (az rfl ((O1.aU aM).ld (nx (nr.map Sl.xs) q k) 0 CM rfl (by decide) (by omega))) (by rw[Bool.not_eq_true] at LG;rw[LG])) ?_;refine oZ df ?_;refine cF (ax (aq (xZ cO (ae (oM ?_)))));refine oS sD (oA (ak ?_));exact xI (k+1,O0,L3,S3) ⟨by omega,QQ.skip (by rw[CM];simpa using LG),O1⟩
   ·refine oS (ab (v':=.bool false) (aF rfl rfl) (congrArg Value.bool (decide_eq_false (by omega)))) ?_;refine oM ?_;refine oN ?_;refine oN ?_;refine oN ?_;refine oN ?_;refine oN ?_;refine oS sP (oZ bQ ?_);refine cF ?_;refine ay ?_;refine ad (ad (ag (aq (xZ bD (ae (oM ?_))))));refine oS sD (oA (ak ?_));exact xI (q+1,O0,L3,S3) ⟨by omega,QQ.row (.inl (by omega)),O1⟩
  ·refine oS (ab (v':=.bool false) (aF rfl rfl) (congrArg Value.bool (decide_eq_false (by omega)))) ?_;refine oZ bF ?_;refine cF ?_;refine ay ?_;refine ad (ad (ag (aq ?_)));exact av (cd (Ng,L2,S2) ⟨hL2,Lx.again,fun EU=>by have hm3:Ng=false:=EU;rw[hm3] at Lx;exact Lx.done hW (by rw[List.length_map];omega)⟩ (by have h7:=Lx.yes;have h8:=Lx.le;dsimp only;cases Ng <;> simp_all <;> omega) aH aP)
 ·refine cP rfl (ab (v':=.bool false) (ba rfl) (by rw[Bool.not_eq_true] at Wm;rw[Wm])) ?_;refine ak ?_;refine av (cj _ _ ?_);refine qf rfl ?_;refine ay ?_;refine ad ?_;refine ad ?_;refine ag ?_;refine av (bU _ _ ?_);refine ah fun _ dq=>?_;refine ae ?_;refine cP rfl (ba rfl) ?_;refine cP rfl (dF rfl) ?_;refine ak ?_;refine av (dq _ _ ?_);refine aA ?_;refine ?_;refine cM (Sub.refl _) (H':=SL) aP ?_;exact cr rfl (.tmp rfl (.nil)) ((by have h9:=hA.len;rw[List.length_map] at h9;exact⟨L,_,_,by rw[h9,← kH];rfl,by rw[h9,← kH];exact hL,LF (by simpa using Wm)⟩))
set_option maxHeartbeats 8000000 in
theorem CL (K:Nat)(na:Option Addr)(nc:Nat)(nr:List (Sl Nat))(ea:Option Addr)(ec:Nat)(ends:List Bool)(hW:nW (nr.map Sl.xs) ends K)(hN:nr.length≤1048577)(bZ:K≤256):HL.Fn Tryz.prog 34 [.agg [.slice na nr.length nc,.slice ea ends.length ec].toArray] (WdR K na nc nr ea ec ends) [] (fun v S'=>∃ (P:List Nat)(a:Option Addr)(c:Nat),v = .slice a (P.map Int.ofNat).length c∧aG Ei 1 3 (.slice a (P.map Int.ofNat).length c) (P.map Int.ofNat) S'∧C3 (nr.map Sl.xs) ends K P):=by
 refine aW Tryz.func34 rfl rfl rfl fun w0 hw=>?_
 have oR:=hw.rn.sl
 have B3:=hw.re.sl
 have kH:=hW.len
 rw[List.length_map] at kH
 refine cR fun _ bI=>?_;refine cB rfl rfl rfl fun b1=>?_;refine oA (oZ bI (cR fun _ bJ=>?_));refine oS sF ?_;refine oS sL ?_;refine oS sC ?_;refine lD (E:=Ei) (zx:=(0:Int)) (n:=ends.length) rfl rfl rfl (by omega) (by omega) rfl fun s8 V3 sR=>?_
 rw[← xW (gL ends) ends.length] at sR
 refine oA (oZ bJ (cR fun _ bK=>?_));refine oA (oZ bK (ah fun _ bU=>?_));refine cR fun _ bT=>?_;refine oA (oZ bT (ai ?_));refine cY (fun (q:Nat)(SP:Hp)=>q≤ends.length∧aG Ei 1 3 (.slice (some ⟨s8,0,none⟩) ends.length ends.length) (gd (gL ends) q ends.length) SP) (fun (q:Nat)(SP:Hp)=>[(4,.int .i64 ((cv (gL ends) q).2:Nat)),(5,.int .i64 q)]) [(1,_),(2,_),(3,_)] (fun (q:Nat)(SP:Hp)=>(b1,.cells [.slice na nr.length nc,.slice ea ends.length ec].toArray 79 (0,0))::SP) (fun (q:Nat)(SP:Hp)=>ends.length-q) 0 V3 ⟨Nat.zero_le _,sR⟩ aH aH aP ?_
 rintro q SP ⟨hq,hP⟩
 have qH:=vK (key:=(gL ends)) (q:=q) (N:=ends.length) hq
 have wc:=hP.sl
 rw[qH] at wc
 have ZN:=tK (gL ends) q
 refine ah fun _ bZ=>?_;refine cR fun _ cj=>?_;refine oM ?_;refine oS sF ?_;refine oS sL ?_;refine oS sC ?_
 by_cases Ha:q<ends.length
 ·obtain⟨b2,Ih⟩:∃ b,ends[q]?=some b:=⟨_,List.getElem?_eq_getElem Ha⟩
  refine oS (ab (v':=.bool true) (aF rfl rfl) (congrArg Value.bool (decide_eq_true (by omega)))) ?_;refine oZ cj ?_;refine gp bZ (ah fun _ ck=>?_);refine ai (cR fun _ cQ=>?_);refine oM (oM ?_);refine oS (au rfl rfl wc (by omega)) ?_;refine dp q (-1) hP bh rfl rfl rfl (by omega) (by omega) fun S26 IV=>?_;refine oZ cQ ?_;refine fU (ι:=Int×Hp) (fun g=>((g.1 = -1∧jk (gL ends) q=none)∨∃ j,jk (gL ends) q=some j∧g.1=((pt (cv (gL ends) q).1 j:Nat):Int))∧aG Ei 1 3 (.slice (some ⟨s8,0,none⟩) ends.length ends.length) ((gd (gL ends) q ends.length).set q g.1) g.2) (fun g=>[]) [(1,_),(2,_),(3,_),(4,_),(5,_),(17,_),(18,_),(19,_),(20,_),(21,_),(24,_),(25,_),(26,_)] (fun g=>(b1,.cells [.slice na nr.length nc,.slice ea ends.length ec].toArray 79 (0,0))::g.2) aH ?_ ?_
  ·rintro⟨val,SV⟩ ⟨xX,hV⟩
   dsimp only at xX hV
   dsimp only
   have QU:((gd (gL ends) q ends.length).set q val).length=ends.length:=by rw[List.length_set];exact qH
   have zM:=hV.sl
   rw[QU] at zM
   have UN:((gd (gL ends) q ends.length).set q val)[q]?=some val:=tL Ha
   refine cR fun _ bF=>?_;refine oM (oM ?_);refine oS (au rfl rfl zM (by omega)) ?_;refine oS (az rfl ((hV.aU aM).ld q 0 UN rfl (by decide) (by omega))) ?_
   by_cases ZO:val<0
   ·have Nc:jk (gL ends) q=none:=by rcases xX with ⟨_,h⟩|⟨j,_,h⟩;(· exact h);(· omega)
    obtain⟨wj,EU⟩:=Bw (N:=ends.length) Ha Nc
    refine oS (ab (v':=.bool true) (aF rfl rfl) (congrArg Value.bool (decide_eq_true ZO))) ?_;refine oZ bF ?_;refine cT (cR fun _ bD=>?_);refine oM (oM (oM ?_));refine oS (au rfl rfl zM (by omega)) ?_;refine dp q (((cv (gL ends) q).2:Nat):Int) hV bh rfl rfl rfl (by omega) (by omega) fun S65 Rh=>?_;refine oZ bD (ae (oM ?_));refine oS sD (oA (ak (aq (xZ ck (ae (oM ?_))))));refine oS sD (oA (ak ?_));exact av (cd (q+1,S65) ⟨by omega,by have h9:=Rh;rw[List.set_set,wj] at h9;exact h9⟩ (by first|omega|(dsimp only;omega)) (by exact Sub.fY rfl (by dsimp only;rw[EU];exact congrArg (Value.int .i64) (by omega)) (Sub.cons rfl aH)) aP)
   ·obtain⟨jj,hfj,rfl⟩:∃ j,jk (gL ends) q=some j∧val=((pt (cv (gL ends) q).1 j:Nat):Int):=by rcases xX with ⟨h,_⟩|h;(· omega);(· exact h)
    obtain⟨wj,EU⟩:=Bx (N:=ends.length) Ha hfj
    refine oS (ab (v':=.bool false) (aF rfl rfl) (congrArg Value.bool (decide_eq_false ZO))) ?_;refine oZ bF ?_;refine cF (ax (aq (xZ ck (ae (oM ?_)))));refine oS sD (oA (ak ?_));exact av (cd (q+1,SV) ⟨by omega,by have h9:=hV;rw[wj] at h9;exact h9⟩ (by first|omega|(dsimp only;omega)) (by exact Sub.fY rfl (by dsimp only;rw[EU]) (Sub.cons rfl aH)) aP)
  ·intro _ ZP
   refine cR fun _ cb=>?_;refine oA (oZ cb (ai ?_));refine dt (fun (p:Nat)(val:Int)(SV:Hp)=>p≤q∧qz (gL ends) q p val∧aG Ei 1 3 (.slice (some ⟨s8,0,none⟩) ends.length ends.length) (((gd (gL ends) q ends.length).set q val)) SV) (fun (p:Nat)(val:Int)(SV:Hp)=>[(6,.int .i64 p)]) [(1,_),(2,_),(3,_),(4,_),(5,_),(17,_),(18,_),(19,_),(20,_),(21,_),(24,_),(25,_),(26,_)] (fun (p:Nat)(val:Int)(SV:Hp)=>(b1,.cells [.slice na nr.length nc,.slice ea ends.length ec].toArray 79 (0,0))::SV) (fun (p:Nat)(val:Int)(SV:Hp)=>q-p) 0 (-1) S26 ⟨Nat.zero_le _,qz.zero _ _,IV⟩ aH aH aP ?_
   rintro p val SV ⟨hp,xX,hV⟩
   have QU:((gd (gL ends) q ends.length).set q val).length=ends.length:=by rw[List.length_set];exact qH
   have zM:=hV.sl
   rw[QU] at zM
   have UN:((gd (gL ends) q ends.length).set q val)[q]?=some val:=tL Ha
   refine ah fun _ bL=>?_;refine cR fun _ bQ=>?_;refine oM (oM ?_)
   by_cases FJ:p<q
   ·obtain⟨b1,O3⟩:∃ b,ends[p]?=some b:=gE
    refine oS (ab (v':=.bool true) (aF rfl rfl) (congrArg Value.bool (decide_eq_true (by omega)))) ?_;refine oM ?_;refine oY (oM ?_);refine oY (oM ?_);refine oY ?_;refine oS (au rfl rfl zM (by omega)) ?_;refine oY ?_;refine oS (az rfl ((hV.aU aM).ld q 0 UN rfl (by decide) (by omega))) ?_;refine oY ?_
    by_cases z9:val<0
    ·refine oS (ab (v':=.bool true) (aF rfl rfl) (congrArg Value.bool (decide_eq_true z9))) ?_;refine oS sT (oZ bQ ?_);refine gp bL (ah fun _ cO=>?_);refine ai (ah fun _ df=>?_);refine iA (by kernel_rfl) ?_;refine .op rfl (j8 rfl rfl (by decide)) ?_;refine .op rfl (az rfl (.own aV rfl)) ?_;refine .op rfl (ba rfl) ?_;refine .op rfl (au rfl rfl B3 (by omega)) ?_;refine .op rfl (az rfl ((cq.bj hw.re).ld p 0 O3 rfl (by decide) (by omega))) ?_;refine .op rfl (j8 rfl rfl (by decide)) ?_;refine .op rfl (az rfl (.own aV rfl)) ?_;refine .op rfl (ba rfl) ?_;refine .op rfl (au rfl rfl B3 (by omega)) ?_;refine .op rfl (az rfl ((cq.bj hw.re).ld q 0 Ih rfl (by decide) (by omega))) ?_
     by_cases Wi:b1=b2
     ·refine .op rfl (ab (v':=.bool true) (eI rfl rfl) (congrArg Value.bool (decide_eq_true Wi))) ?_;refine .nil ?_;refine xZ df ?_;refine cT (ae (oM (oM (oM (oM ?_)))));refine oS (au rfl rfl zM (by omega)) ?_;refine oS (az rfl ((hV.aU aM).ld p 0 (By FJ) rfl (by decide) (by omega))) ?_;refine oS (au rfl rfl zM (by omega)) ?_;refine dp q ((pt (cv (gL ends) q).1 p:Nat):Int) hV bh rfl rfl rfl (by omega) (by omega) fun QV zO=>?_;refine ak (aq (xZ cO (ae (oM ?_))));refine oS sD (oA (ak ?_));exact av (cd (p+1,((pt (cv (gL ends) q).1 p:Nat):Int),QV) ⟨by omega,xX.mX z9 FJ (decide_eq_true (by rw[O3,Ih,Wi])),by have h9:=zO;rw[List.set_set] at h9;exact h9⟩ (by dsimp only;omega) aH aP)
     ·refine .op rfl (ab (v':=.bool false) (eI rfl rfl) (congrArg Value.bool (decide_eq_false Wi))) ?_;refine .nil ?_;refine xZ df ?_;refine cF (ax (aq (xZ cO (ae (oM ?_)))));refine oS sD (oA (ak ?_));exact av (cd (p+1,val,SV) ⟨by omega,xX.skip z9 (decide_eq_false (by rw[O3,Ih];exact fun h=>Wi (Option.some.inj h))),hV⟩ (by dsimp only;omega) aH aP)
    ·refine oS (ab (v':=.bool false) (aF rfl rfl) (congrArg Value.bool (decide_eq_false z9))) ?_;refine oS sT (oZ bQ ?_);refine cF ?_;refine ay ?_;refine ad (ad (ag ?_));exact av (ZP (val,SV) _ _ ⟨xX.done (.inl z9),hV⟩ aH aH aP)
   ·refine oS (ab (v':=.bool false) (aF rfl rfl) (congrArg Value.bool (decide_eq_false (by omega)))) ?_;refine oM ?_;refine oN ?_;refine oN ?_;refine oN ?_;refine oN ?_;refine oN ?_;refine oS sP (oZ bQ ?_);refine cF ?_;refine ay ?_;refine ad (ad (ag ?_));exact av (ZP (val,SV) _ _ ⟨xX.done (.inr (by omega)),hV⟩ aH aH aP)
 ·obtain rfl:q=ends.length:=by omega
  refine oS (ab (v':=.bool false) (aF rfl rfl) (congrArg Value.bool (decide_eq_false (by omega)))) ?_;refine oZ cj ?_;refine cF ?_;refine ay ?_;refine ad (ad (ag (xZ bU (ai ?_))))
  refine lS (fun (n:Nat)(P:List Nat)(pa:Option Addr)(pc:Nat)(SP:Hp)=>GS (nr.map Sl.xs) ends K P n∧aG Ei 1 3 (.slice pa ends.length pc) (P.map Int.ofNat) SP) (fun (n:Nat)(P:List Nat)(pa:Option Addr)(pc:Nat)(SP:Hp)=>[(3,.slice pa ends.length pc),(4,.int .i64 n)]) [(1,_)] (fun (n:Nat)(P:List Nat)(pa:Option Addr)(pc:Nat)(SP:Hp)=>(b1,.cells [.slice na nr.length nc,.slice ea ends.length ec].toArray 79 (0,0))::SP) (fun (n:Nat)(P:List Nat)(pa:Option Addr)(pc:Nat)(SP:Hp)=>ends.length+1-n) _ _ (some ⟨s8,0,none⟩) ends.length SP ⟨by have h9:=GS.zero hW;rw[List.length_map,← kH] at h9;exact h9,by rw[← rM];exact hP⟩ aH aH aP ?_
  rintro n P pa pc SP ⟨ZQ,hP⟩
  have qH:(P.map Int.ofNat).length=ends.length:=by rw[List.length_map,ZQ.sep.len,List.length_map];omega
  have W2:P.length=ends.length:=by rw[← qH,List.length_map]
  have wc:=hP.sl
  rw[qH] at wc
  have ZN:=ZQ.le
  rw[List.length_map] at ZN
  refine ai (cR fun _ cZ=>?_);refine oM ?_;refine oS sC ?_;refine lD (E:=Ei) (zx:=(0:Int)) (n:=ends.length) rfl rfl rfl (by omega) (by omega) rfl fun b70 S70 OI=>?_
  rw[← xW (fy (nr.map Sl.xs) K P) ends.length] at OI
  refine oA (oZ cZ (cR fun _ dq=>?_));refine oA (oZ dq (ah fun _ dG=>?_));refine cR fun _ eb=>?_;refine oA (oZ eb (ai ?_));refine cY (fun (q:Nat)(SQ:Hp)=>q≤ends.length∧aG Ei 1 3 (.slice (some ⟨b70,0,none⟩) ends.length ends.length) (gd (fy (nr.map Sl.xs) K P) q ends.length) SQ) (fun (q:Nat)(SQ:Hp)=>[(8,.int .i64 ((cv (fy (nr.map Sl.xs) K P) q).2:Nat)),(9,.int .i64 q)]) [(1,_),(3,_),(4,_),(7,_),(68,_),(69,_),(70,_)] (fun (q:Nat)(SQ:Hp)=>(b1,.cells [.slice na nr.length nc,.slice ea ends.length ec].toArray 79 (0,0))::(SQ++SP)) (fun (q:Nat)(SQ:Hp)=>ends.length-q) 0 S70 ⟨Nat.zero_le _,OI⟩ aH aH aP ?_
  rintro q SQ ⟨hq,hQ⟩
  have Fk:=vK (key:=(fy (nr.map Sl.xs) K P)) (q:=q) (N:=ends.length) hq
  have tC:=hQ.sl
  rw[Fk] at tC
  have ajT:=tK (fy (nr.map Sl.xs) K P) q
  refine ah fun _ dL=>?_;refine cR fun _ dR=>?_;refine oM (oM ?_);refine oS sC ?_
  by_cases Ha:q<ends.length
  ·obtain⟨sq,O4⟩:∃ s,nr[q]?=some s:=gE
   have ZR:=List.mem_of_getElem? O4
   obtain⟨hqK,hqx⟩:=hW.at_ O4
   have OU:eA (.slice sq.a sq.xs.length sq.c) sq.xs.length:=(hw.rr sq ZR).sl
   refine oS (ab (v':=.bool true) (aF rfl rfl) (congrArg Value.bool (decide_eq_true (by omega)))) ?_;refine oZ dR ?_;refine gp dL (ah fun _ dk=>?_);refine ai (cR fun _ dE=>?_);refine oM (oM ?_);refine oS (au rfl rfl tC (by omega)) ?_;refine dp q (-1) hQ bh rfl rfl rfl (by omega) (by omega) fun S79 R9=>?_;refine oZ dE ?_;refine fU (ι:=Int×Hp) (fun g=>((g.1 = -1∧jk (fy (nr.map Sl.xs) K P) q=none)∨∃ j,jk (fy (nr.map Sl.xs) K P) q=some j∧g.1=((pt (cv (fy (nr.map Sl.xs) K P) q).1 j:Nat):Int))∧aG Ei 1 3 (.slice (some ⟨b70,0,none⟩) ends.length ends.length) ((gd (fy (nr.map Sl.xs) K P) q ends.length).set q g.1) g.2) (fun g=>[]) [(1,_),(3,_),(4,_),(7,_),(8,_),(9,_),(68,_),(69,_),(70,_),(71,_),(72,_),(73,_),(74,_),(77,_),(78,_),(79,_)] (fun g=>(b1,.cells [.slice na nr.length nc,.slice ea ends.length ec].toArray 79 (0,0))::(g.2++SP)) aH ?_ ?_
   ·rintro⟨val,SV⟩ ⟨xX,hV⟩
    dsimp only at xX hV
    dsimp only
    have QU:((gd (fy (nr.map Sl.xs) K P) q ends.length).set q val).length=ends.length:=by rw[List.length_set];exact Fk
    have zM:=hV.sl
    rw[QU] at zM
    have UN:((gd (fy (nr.map Sl.xs) K P) q ends.length).set q val)[q]?=some val:=tL Ha
    refine cR fun _ dW=>?_;refine oM (oM ?_);refine oS (au rfl rfl zM (by omega)) ?_;refine oS (az rfl ((hV.aU aM).ld q 0 UN rfl (by decide) (by omega))) ?_
    by_cases ZO:val<0
    ·have Nc:jk (fy (nr.map Sl.xs) K P) q=none:=by rcases xX with ⟨_,h⟩|⟨j,_,h⟩;(· exact h);(· omega)
     obtain⟨wj,EU⟩:=Bw (N:=ends.length) Ha Nc
     refine oS (ab (v':=.bool true) (aF rfl rfl) (congrArg Value.bool (decide_eq_true ZO))) ?_;refine oZ dW ?_;refine cT (cR fun _ ee=>?_);refine oM (oM (oM ?_));refine oS (au rfl rfl zM (by omega)) ?_;refine dp q (((cv (fy (nr.map Sl.xs) K P) q).2:Nat):Int) hV bh rfl rfl rfl (by omega) (by omega) fun UO LH=>?_;refine oZ ee (ae (oM ?_));refine oS sD (oA (ak (aq (xZ dk (ae (oM ?_))))));refine oS sD (oA (ak ?_));exact av (cd (q+1,UO) ⟨by omega,by have h9:=LH;rw[List.set_set,wj] at h9;exact h9⟩ (by first|omega|(dsimp only;omega)) (by exact Sub.fY rfl (by dsimp only;rw[EU];exact congrArg (Value.int .i64) (by omega)) (Sub.cons rfl aH)) aP)
    ·obtain⟨jj,hfj,rfl⟩:∃ j,jk (fy (nr.map Sl.xs) K P) q=some j∧val=((pt (cv (fy (nr.map Sl.xs) K P) q).1 j:Nat):Int):=by rcases xX with ⟨h,_⟩|h;(· omega);(· exact h)
     obtain⟨wj,EU⟩:=Bx (N:=ends.length) Ha hfj
     refine oS (ab (v':=.bool false) (aF rfl rfl) (congrArg Value.bool (decide_eq_false ZO))) ?_;refine oZ dW ?_;refine cF (ax (aq (xZ dk (ae (oM ?_)))));refine oS sD (oA (ak ?_));exact av (cd (q+1,SV) ⟨by omega,by have h9:=hV;rw[wj] at h9;exact h9⟩ (by first|omega|(dsimp only;omega)) (by exact Sub.fY rfl (by dsimp only;rw[EU]) (Sub.cons rfl aH)) aP)
   ·intro _ ZS
    refine cR fun _ eh=>?_;refine oA (oZ eh (ai ?_));refine dt (fun (p:Nat)(val:Int)(SV:Hp)=>p≤q∧qz (fy (nr.map Sl.xs) K P) q p val∧aG Ei 1 3 (.slice (some ⟨b70,0,none⟩) ends.length ends.length) (((gd (fy (nr.map Sl.xs) K P) q ends.length).set q val)) SV) (fun (p:Nat)(val:Int)(SV:Hp)=>[(10,.int .i64 p)]) [(1,_),(3,_),(4,_),(7,_),(8,_),(9,_),(68,_),(69,_),(70,_),(71,_),(72,_),(73,_),(74,_),(77,_),(78,_),(79,_)] (fun (p:Nat)(val:Int)(SV:Hp)=>(b1,.cells [.slice na nr.length nc,.slice ea ends.length ec].toArray 79 (0,0))::(SV++SP)) (fun (p:Nat)(val:Int)(SV:Hp)=>q-p) 0 (-1) S79 ⟨Nat.zero_le _,qz.zero _ _,R9⟩ aH aH aP ?_
    rintro p val SV ⟨hp,xX,hV⟩
    have QU:((gd (fy (nr.map Sl.xs) K P) q ends.length).set q val).length=ends.length:=by rw[List.length_set];exact Fk
    have zM:=hV.sl
    rw[QU] at zM
    have UN:((gd (fy (nr.map Sl.xs) K P) q ends.length).set q val)[q]?=some val:=tL Ha
    refine ah fun _ eD=>?_;refine cR fun _ dN=>?_;refine oM (oM ?_)
    by_cases FJ:p<q
    ·obtain⟨sp,UP⟩:∃ s,nr[p]?=some s:=gE
     have ZT:=List.mem_of_getElem? UP
     obtain⟨hpK,Qy⟩:=hW.at_ UP
     have UQ:eA (.slice sp.a sp.xs.length sp.c) sp.xs.length:=(hw.rr sp ZT).sl
     refine oS (ab (v':=.bool true) (aF rfl rfl) (congrArg Value.bool (decide_eq_true (by omega)))) ?_;refine oM ?_;refine oY (oM ?_);refine oY (oM ?_);refine oY ?_;refine oS (au rfl rfl zM (by omega)) ?_;refine oY ?_;refine oS (az rfl ((hV.aU aM).ld q 0 UN rfl (by decide) (by omega))) ?_;refine oY ?_
     by_cases z9:val<0
     ·refine oS (ab (v':=.bool true) (aF rfl rfl) (congrArg Value.bool (decide_eq_true z9))) ?_;refine oS sT (oZ dN ?_);refine gp eD (ah fun _ e6=>?_);refine ai (ah fun _ du=>?_);refine iA (by kernel_rfl) ?_;refine .op rfl (ba rfl) ?_;refine .op rfl (ba rfl) ?_;refine .op rfl (au rfl rfl wc (by omega)) ?_;refine .op rfl (az rfl ((hP.aU aM).ld p 0 (Sh (by omega)) rfl (by decide) (by omega))) ?_;refine .op rfl (ba rfl) ?_;refine .op rfl (ba rfl) ?_;refine .op rfl (au rfl rfl wc (by omega)) ?_;refine .op rfl (az rfl ((hP.aU aM).ld q 0 (Sh (by omega)) rfl (by decide) (by omega))) ?_;refine .op rfl (ab (v':=.bool (decide (pt P p=pt P q))) (bO rfl rfl) (congrArg Value.bool (decide_eq_decide.2 (by omega)))) ?_;refine .op rfl (dF rfl) ?_;refine .nil ?_;refine xZ du ?_;refine fU (ι:=Bool) (fun al=>al=fy (nr.map Sl.xs) K P p q) (fun al=>[(11,.bool al)]) [(1,_),(3,_),(4,_),(7,_),(8,_),(9,_),(10,_),(68,_),(69,_),(70,_),(71,_),(72,_),(73,_),(74,_),(77,_),(78,_),(79,_),(80,_),(81,_),(82,_),(83,_),(84,_),(85,_),(86,_),(87,_),(88,_),(89,_),(92,_),(93,_),(94,_),(95,_),(96,_),(97,_),(98,_),(99,_),(100,_)] (fun al=>(b1,.cells [.slice na nr.length nc,.slice ea ends.length ec].toArray 79 (0,0))::(SV++SP)) aH ?_ ?_
      ·rintro al wo
       refine cR fun _ fx=>?_
       by_cases B6:al=true
       ·refine oS (ab (v':=.bool true) (ba rfl) (by rw[B6])) ?_;refine oZ fx ?_;refine cT (ae (oM (oM (oM (oM ?_)))));refine oS (au rfl rfl zM (by omega)) ?_;refine oS (az rfl ((hV.aU aM).ld p 0 (By FJ) rfl (by decide) (by omega))) ?_;refine oS (au rfl rfl zM (by omega)) ?_;refine dp q ((pt (cv (fy (nr.map Sl.xs) K P) q).1 p:Nat):Int) hV bh rfl rfl rfl (by omega) (by omega) fun YN KW=>?_;refine ak (aq (xZ e6 (ae (oM ?_))));refine oS sD (oA (ak ?_));exact av (cd (p+1,((pt (cv (fy (nr.map Sl.xs) K P) q).1 p:Nat):Int),YN) ⟨by omega,xX.mX z9 FJ (by rw[← wo];exact B6),by have h9:=KW;rw[List.set_set] at h9;exact h9⟩ (by dsimp only;omega) aH aP)
       ·refine oS (ab (v':=.bool false) (ba rfl) (by rw[Bool.not_eq_true] at B6;rw[B6])) ?_;refine oZ fx ?_;refine cF (ax (aq (xZ e6 (ae (oM ?_)))));refine oS sD (oA (ak ?_));exact av (cd (p+1,val,SV) ⟨by omega,xX.skip z9 (by rw[← wo];simpa using B6),hV⟩ (by dsimp only;omega) aH aP)
      ·intro _ GL
       refine cR fun _ fN=>?_;refine oA (oZ fN (ai ?_));refine cY (fun (k:Nat)(al:Bool)=>k≤K∧al=Bz (nr.map Sl.xs) P p q k) (fun (k:Nat)(al:Bool)=>[(11,.bool al),(12,.int .i64 k)]) [(1,_),(3,_),(4,_),(7,_),(8,_),(9,_),(10,_),(68,_),(69,_),(70,_),(71,_),(72,_),(73,_),(74,_),(77,_),(78,_),(79,_),(80,_),(81,_),(82,_),(83,_),(84,_),(85,_),(86,_),(87,_),(88,_),(89,_),(92,_),(93,_),(94,_),(95,_),(96,_),(97,_),(98,_),(99,_),(100,_)] (fun (k:Nat)(al:Bool)=>(b1,.cells [.slice na nr.length nc,.slice ea ends.length ec].toArray 79 (0,0))::(SV++SP)) (fun (k:Nat)(al:Bool)=>K-k) 0 (decide (pt P p=pt P q)) ⟨Nat.zero_le _,by unfold Bz;simp⟩ aH aH aP ?_
       rintro k al ⟨hk,wo⟩
       refine ah fun _ gh=>?_;refine cR fun _ fZ=>?_;refine oM ?_;refine oS sF ?_;refine oS sL (oM ?_);refine oS (au rfl rfl oR (by omega)) ?_;refine oS (az rfl ((cq.bj hw.rn).ld (u:=.slice sq.a sq.xs.length sq.c) q 0 O4 rfl (by decide) (by omega))) ?_;refine oS sC ?_
       by_cases z7:k<K
       ·obtain⟨Jy,MX⟩:=hqx k z7
        obtain⟨kG,hp2⟩:=Qy k z7
        refine oS (ab (v':=.bool true) (aF rfl rfl) (congrArg Value.bool (decide_eq_true (by omega)))) ?_;refine oM ?_;refine oY ?_
        by_cases halt:al=true
        ·refine oS (ab (v':=.bool true) (ba rfl) (by rw[halt])) ?_;refine oS sT (oZ fZ ?_);refine gp gh (ah fun _ iW=>?_);refine ai ?_;refine iA (by kernel_rfl) ?_;refine .op rfl (ba rfl) ?_;refine .op rfl (j8 rfl rfl (by decide)) ?_;refine .op rfl (az rfl (.own aV rfl)) ?_;refine .op rfl (ba rfl) ?_;refine .op rfl (au rfl rfl oR (by omega)) ?_;refine .op rfl (az rfl ((cq.bj hw.rn).ld (u:=.slice sp.a sp.xs.length sp.c) p 0 UP rfl (by decide) (by omega))) ?_;refine .op rfl (ba rfl) ?_;refine .op rfl (au rfl rfl UQ (by omega)) ?_;refine .op rfl (az rfl ((cq.bj (show Rd jo w0 (.slice sp.a sp.xs.length sp.c) sp.xs from hw.rr sp ZT)).ld k 0 kG rfl (by decide) (by omega))) ?_;refine .op rfl (au rfl rfl wc (by omega)) ?_;refine .op rfl (az rfl ((hP.aU aM).ld (nx (nr.map Sl.xs) p k) 0 (Sh (by omega)) rfl (by decide) (by omega))) ?_;refine .op rfl (ba rfl) ?_;refine .op rfl (j8 rfl rfl (by decide)) ?_;refine .op rfl (az rfl (.own aV rfl)) ?_;refine .op rfl (ba rfl) ?_;refine .op rfl (au rfl rfl oR (by omega)) ?_;refine .op rfl (az rfl ((cq.bj hw.rn).ld (u:=.slice sq.a sq.xs.length sq.c) q 0 O4 rfl (by decide) (by omega))) ?_;refine .op rfl (ba rfl) ?_;refine .op rfl (au rfl rfl OU (by omega)) ?_;refine .op rfl (az rfl ((cq.bj (show Rd jo w0 (.slice sq.a sq.xs.length sq.c) sq.xs from hw.rr sq ZR)).ld k 0 Jy rfl (by decide) (by omega))) ?_;refine .op rfl (au rfl rfl wc (by omega)) ?_;refine .op rfl (az rfl ((hP.aU aM).ld (nx (nr.map Sl.xs) q k) 0 (Sh (by omega)) rfl (by decide) (by omega))) ?_
         refine .op rfl (ab (v':=.bool (decide (pt P (nx (nr.map Sl.xs) p k)=pt P (nx (nr.map Sl.xs) q k)))) (bO rfl rfl) (congrArg Value.bool (decide_eq_decide.2 (by omega)))) ?_;refine .op rfl (dF rfl) ?_;refine .nil ?_;refine aq (xZ iW (ae (oM ?_)));refine oS sD (oA (ak ?_));exact av (cd (k+1,decide (pt P (nx (nr.map Sl.xs) p k)=pt P (nx (nr.map Sl.xs) q k))) ⟨by omega,by rw[HA,← wo,halt,Bool.true_and]⟩ (by dsimp only;omega) aH aP)
        ·refine oS (ab (v':=.bool false) (ba rfl) (by rw[Bool.not_eq_true] at halt;rw[halt])) ?_;refine oS sT (oZ fZ ?_);refine cF ?_;refine ay ?_;refine ad (ad (ag ?_));exact av (GL al _ _ (by rw[Bool.not_eq_true] at halt;rw[halt] at wo ⊢;exact (DQ wo.symm hk).symm) aH aH aP)
       ·refine oS (ab (v':=.bool false) (aF rfl rfl) (congrArg Value.bool (decide_eq_false (by omega)))) ?_;refine oM ?_;refine oN ?_;refine oS sP (oZ fZ ?_);refine cF ?_;refine ay ?_;refine ad (ad (ag ?_));exact av (GL al _ _ (by obtain rfl:k=K:=(by omega);exact wo) aH aH aP)
     ·refine oS (ab (v':=.bool false) (aF rfl rfl) (congrArg Value.bool (decide_eq_false z9))) ?_;refine oS sT (oZ dN ?_);refine cF ?_;refine ay ?_;refine ad (ad (ag ?_));exact av (ZS (val,SV) _ _ ⟨xX.done (.inl z9),hV⟩ aH aH aP)
    ·refine oS (ab (v':=.bool false) (aF rfl rfl) (congrArg Value.bool (decide_eq_false (by omega)))) ?_;refine oM ?_;refine oN ?_;refine oN ?_;refine oN ?_;refine oN ?_;refine oN ?_;refine oS sP (oZ dN ?_);refine cF ?_;refine ay ?_;refine ad (ad (ag ?_));exact av (ZS (val,SV) _ _ ⟨xX.done (.inr (by omega)),hV⟩ aH aH aP)
  ·obtain rfl:q=ends.length:=by omega
   refine oS (ab (v':=.bool false) (aF rfl rfl) (congrArg Value.bool (decide_eq_false (by omega)))) ?_;refine oZ dR ?_;refine cF ?_;refine ay ?_;refine ad (ad (ag (xZ dG (cR fun _ gA=>?_))));refine oM (oA (oZ gA (ah fun _ iX=>?_)));refine cR fun _ jW=>?_;refine oM (oM ?_)
   by_cases wm:(cv (fy (nr.map Sl.xs) K P) ends.length).2=n
   ·refine oS (ab (v':=.bool true) (bO rfl rfl) (congrArg Value.bool (decide_eq_true (by omega)))) ?_;refine oZ jW ?_;refine cT (cR fun _ kT=>?_);refine oM (oA (oZ kT (aA ?_)));refine aj (aw (aj (aw (?_))))
    refine cM (Sub.refl _) (H':=SQ) aP ?_;exact cr rfl (.tmp rfl (.nil)) ((by have h9:=ZQ.done hW (by rw[List.length_map,← kH];exact wm);rw[List.length_map,← kH] at h9;rw[rM] at hQ;have h8:((cv (fy (nr.map Sl.xs) K P) ends.length).1.map Int.ofNat).length=ends.length:=by { rw[List.length_map,jJ] };exact⟨_,_,_,by rw[h8];rfl,by rw[h8];exact hQ,h9⟩))
   ·refine oS (ab (v':=.bool false) (bO rfl rfl) (congrArg Value.bool (decide_eq_false (by omega)))) ?_;refine oZ jW ?_;refine eL iX (ae (oM (oA (ak (aq ?_)))));exact av (cd ((cv (fy (nr.map Sl.xs) K P) ends.length).2,(cv (fy (nr.map Sl.xs) K P) ends.length).1,some ⟨b70,0,none⟩,ends.length,SQ) ⟨by have h9:=ZQ.round hW;rw[List.length_map,← kH] at h9;exact h9,by rw[← rM];exact hQ⟩ (by have h8:=ZQ.more hW;rw[List.length_map,← kH] at h8;have h7:=tK (fy (nr.map Sl.xs) K P) ends.length;dsimp only;omega) aH aP)
end Go.Proofs.YtmompllplidphaaGreatDoor
namespace Go.Proofs.YtmompllplidphaaGreatDoor
open Go Go.HL Go.Proofs Go.HL.Kl
theorem F3 (c:Cl)(x:Nat)(hx:x<256):HL.Fn Tryz.prog 89 [.agg (Ec c).toArray,.int .u8 x] (fun _=>True) [] (fun v _=>v = .agg (Ec (c ||| bit x)).toArray):=by
 refine aW Tryz.func89 rfl rfl rfl fun w0 hw=>?_
 rw[← Ez c hx]
 refine cR fun _ bI=>?_;refine cB rfl rfl rfl fun b2=>?_;refine aB (l:=Ec 0#256) (by rw[bk];rfl) rfl fun b4=>?_;refine oZ bI (cR fun _ bJ=>?_);refine oM ?_;refine oS (ab (v':=.int .u8 ((x / 64:Nat):Int)) (Ah rfl rfl (by decide)) (congrArg _ (IK hx))) ?_;refine oM ?_;refine oS (ab (v':=.int .u8 ((x / 64:Nat):Int)) (Ah rfl rfl (by decide)) (congrArg _ (IK hx))) ?_;refine oS (dP rfl rfl (by omega)) ?_;refine oS (az rfl ((aI.own aV).iU (j:=x / 64) (lF _ (by omega)) (by omega))) ?_;refine oM ?_;refine oS (ab (v':=.int .u8 ((x % 64:Nat):Int)) (jZ rfl rfl (by decide)) (congrArg _ (PZ hx))) ?_;refine oS (ab (v':=Ew (1#64 <<< (x % 64))) (EA rfl rfl (by omega)) (IL (by omega))) ?_;refine oS (ab (IM rfl rfl) (Rn (wd c (x / 64)) (1#64 <<< (x % 64)))) ?_;refine oS (dP rfl rfl (by omega)) ?_;refine bg rfl rfl rfl bY (by show x / 64<4;omega) rfl ?_
 rw[od _ _ (by omega)]
 refine oZ bJ (cR fun _ bK=>?_);refine oS (aD rfl (aI.aO (.own aV)) aS) ?_;refine bf rfl rfl bY aS aS (by first|exact ia _|exact dH _ _|exact gw rfl|(simp[Value.oneCell'];done)) ?_;refine oZ bK (aA ?_);refine ?_;exact cr rfl (.agg inferInstance inferInstance rfl (aI.aO (.own aV)) aS (.nil)) (rfl)
theorem Ci (a:Option Addr)(n:Nat)(l:List Cl)(x y:Nat)(hx:x<256)(hy:y<256):HL.Fn Tryz.prog 88 [.slice a l.length n,.int .u8 x,.int .u8 y] (fun w=>Rd Ec w (.slice a l.length n) l) [] (fun v _=>v = .bool (alike l x y)):=by
 refine aW Tryz.func88 rfl rfl rfl fun w0 hw=>?_
 have dr:=hw.sl
 have s3:=dr.le
 refine cR fun _ bI=>?_;refine oA (oZ bI (ah fun _ bJ=>?_));refine cR fun _ bK=>?_;refine oA (oZ bK (ai ?_))
 refine aL (fun (i:Nat)=>i≤l.length∧alike (l.take i) x y=true) (fun (i:Nat)=>[(7,.int .i64 i)]) [(0,_),(1,_),(2,_)] (fun (i:Nat)=>[]) (fun (i:Nat)=>l.length-i) 0 ⟨by omega,rfl⟩ aH aH aP ?_
 rintro i ⟨hi,ha⟩
 refine ah fun _ bU=>?_;refine cR fun _ bT=>?_;refine oM (oM ?_);refine oS sC ?_;refine oS (aF rfl rfl) ?_;refine oZ bT ?_;refine cx rfl (fun Ro=>?_) (fun Ro=>?_)
 · skip
   have cH:i<l.length:=by omega
   have Nq:=List.getElem?_eq_getElem cH
   refine ax (xZ bU (ah fun _ bZ=>?_));refine ai (ah fun _ cj=>?_);refine iA (by kernel_rfl) ?_;refine .op rfl (ba rfl) ?_;refine .op rfl (ba rfl) ?_;refine .op rfl (au rfl rfl (by assumption) (by omega)) ?_;refine .op rfl (aD rfl ((cq.bj hw).gx i Nq (by omega)) rfl) ?_;refine .op rfl (ba rfl) ?_;refine .call (fun _ _=>rfl) rfl rfl rfl (s4 l[i] x hx) (fun _ _=>trivial) ?_;refine .op rfl (ba rfl) ?_;refine .op rfl (ba rfl) ?_;refine .op rfl (au rfl rfl (by assumption) (by omega)) ?_;refine .op rfl (aD rfl ((cq.bj hw).gx i Nq (by omega)) rfl) ?_;refine .op rfl (ba rfl) ?_;refine .call (fun _ _=>rfl) rfl rfl rfl (s4 l[i] y hy) (fun _ _=>trivial) ?_;refine .op rfl (jt rfl rfl) ?_;refine .nil ?_;refine xZ cj ?_;refine cx rfl (fun dM=>?_) (fun dM=>?_)
   · skip
     refine cR fun _ ck=>?_;refine oA (oZ ck (aA ?_));refine aw (aj (aj (aw (aj (?_)))))
     exact xR rfl rfl (congrArg Value.bool (Ai cH dM).symm)
   · skip
     refine ax (aq (xZ bZ (ae (oM ?_))));refine oS sD (oA (ak ?_));exact xI (i+1) ⟨by omega,Cj ha cH (Decidable.not_not.1 dM)⟩
 · skip
   refine ay ?_;refine ad (ad (ag (xZ bJ (cR fun _ cQ=>?_))));refine oA (oZ cQ (aA ?_));refine ?_;exact xR rfl rfl (congrArg Value.bool (by rw[List.take_of_length_le (by omega)] at ha;exact ha.symm))
theorem F4 (a : Option Addr) (n : Nat) (l : List Cl) : HL.Fn Tryz.prog 32 [.slice a l.length n] (fun w => Rd Ec w (.slice a l.length n) l) [] (fun v S' => ∃ a' n', v = .slice a' (qN l).length n' ∧ aG Ec 4 39 (.slice a' (qN l).length n') (qN l) S') := by
 refine aW Tryz.func32 rfl rfl rfl fun w0 hw=>?_
 have dr:=hw.sl
 have s3:=dr.le
 refine cR fun _ bI=>?_;refine oA (oZ bI (cR fun _ bJ=>?_));refine oA (oZ bJ (ah fun _ bK=>?_));refine cR fun _ bU=>?_;refine oA (oZ bU (ai ?_));refine fM (fun (x:Nat)(b:Option Addr)(m:Nat)(S:Hp)=>x≤256∧aG Ec 4 39 (.slice b (dT l x).length m) (dT l x) S) (fun (x:Nat)(b:Option Addr)(m:Nat)(S:Hp)=>[(4,.int .i64 x),(3,.slice b (dT l x).length m)]) [(0,_),(2,_)] (fun (x:Nat)(b:Option Addr)(m:Nat)(S:Hp)=>S) (fun (x:Nat)(b:Option Addr)(m:Nat)(S:Hp)=>256-x) 0 none 0 [] ⟨by omega,.nil⟩ aH aH (by exact HSub.nil) ?_
 rintro x b m S ⟨qG,hS⟩
 have wo:=yt l x
 refine ah fun _ bT=>?_;refine cR fun _ bZ=>?_;refine oM ?_;refine oS (aF rfl rfl) ?_;refine oZ bZ ?_;refine cx rfl (fun cH=>?_) (fun cH=>?_)
 · skip
   refine ax (xZ bT (ah fun _ cj=>?_));refine ai (cR fun _ ck=>?_);refine oS (ab (v':=.agg (Ec 0#256).toArray) (fX rfl) (by rw[bk];rfl)) ?_;refine aB (l:=Ec 0#256) (by rw[bk];rfl) rfl fun b5=>?_;refine bf rfl rfl bY aS aS (by first|exact ia _|exact dH _ _|exact gw rfl|(simp[Value.oneCell'];done)) ?_;refine oZ ck (cR fun _ cQ=>?_);refine oA (oZ cQ (ah fun _ bw=>?_));refine cR fun _ bF=>?_;refine oA (oZ bF (ai ?_));refine aL (fun (y:Nat)=>y≤256) (fun (y:Nat)=>[(7,.int .i64 y),(6,.bool (gy l x y))]) [(0,_),(2,_),(3,_),(4,_),(5,_),(8,_),(9,_),(12,_)] (fun (y:Nat)=>[(b5,.cells (Ec (gV l x y)).toArray 39 (0,0))]++S) (fun (y:Nat)=>256-y) 0 (by omega) aH aH aP ?_
   rintro y hy0
   refine ah fun _ bD=>?_;refine cR fun _ cb=>?_;refine oM ?_;refine oS (aF rfl rfl) ?_;refine oZ cb ?_;refine cx rfl (fun acM=>?_) (fun acM=>?_)
   · skip
     refine ax (xZ bD (ah fun _ bL=>?_));refine ai (cR fun _ bQ=>?_);refine oM (oM ?_);refine oS (ab (v':=.int .u8 ((x:Nat):Int)) (cV rfl) (congrArg _ (tV (by omega)))) ?_;refine oM ?_;refine oS (ab (v':=.int .u8 ((y:Nat):Int)) (cV rfl) (congrArg _ (tV (by omega)))) ?_;refine ar (Ci a n l x y (by omega) (by omega)) rfl rfl rfl (fun w st=>(cq.bj hw).out w st) (fun v22 qO=>?_)
     cases Ck:alike l x y
     · skip
       rw[Ck] at qO
       subst qO;refine oZ bQ ?_;refine cF (ax (aq (xZ bL (ae (oM ?_)))));refine oS sD (oA (ak ?_))
       rw[show gV l x y=gV l x (y+1) from by simp[gV,Ck]]
       exact av (cd (y+1) (by omega) (by first|omega|(dsimp only;omega)) (by refine Sub.cons rfl (Sub.fY rfl (by simp[jh,Ck]) aH)) aP)
     · skip
       rw[Ck] at qO
       subst qO;refine oZ bQ ?_;refine cT (cR fun _ cO=>?_);refine oS (aD rfl (aI.aO (.own aV)) aS) ?_;refine oM ?_;refine oS (ab (v':=.int .u8 ((y:Nat):Int)) (cV rfl) (congrArg _ (tV (by omega)))) ?_;refine ar (F3 _ y (by omega)) rfl rfl rfl (fun _ _=>trivial) (fun P0 qP=>?_);subst qP
       refine bf rfl rfl bY aS aS (by first|exact ia _|exact dH _ _|exact gw rfl|(simp[Value.oneCell'];done)) ?_;refine oZ cO (ae ?_)
       by_cases Cm:gy l x y=true
       · skip
         refine oS (ab (v':=.bool true) (ba rfl) (by rw[Cm])) ?_;refine oM ?_;refine oY (oM ?_);refine oY (oM ?_);refine oY ?_
         by_cases hle:x≤y
         · skip
           refine oS (ab (v':=.bool true) (iH rfl rfl) (congrArg Value.bool (decide_eq_true (by omega)))) ?_;refine oS sT (oA (ak (aq (xZ bL (ae (oM ?_))))));refine oS sD (oA (ak ?_))
           rw[show gV l x y ||| bit y=gV l x (y+1) from by simp[gV,Ck]]
           exact av (cd (y + 1) (by omega) (by first | omega | (dsimp only; omega)) (by refine Sub.cons rfl (Sub.fY rfl (by simp [jh, *]) aH)) aP)
         · skip
           refine oS (ab (v':=.bool false) (iH rfl rfl) (congrArg Value.bool (decide_eq_false (by omega)))) ?_;refine oS sT (oA (ak (aq (xZ bL (ae (oM ?_))))));refine oS sD (oA (ak ?_))
           rw[show gV l x y ||| bit y=gV l x (y+1) from by simp[gV,Ck]]
           exact av (cd (y + 1) (by omega) (by first | omega | (dsimp only; omega)) (by refine Sub.cons rfl (Sub.fY rfl (by simp [jh, *]) aH)) aP)
       · skip
         refine oS (ab (v':=.bool false) (ba rfl) (by rw[Bool.not_eq_true] at Cm;rw[Cm])) ?_;refine oM ?_;refine oN ?_;refine oN ?_;refine oN ?_;refine oS sP (oA (ak (aq (xZ bL (ae (oM ?_))))));refine oS sD (oA (ak ?_))
         rw[show gV l x y ||| bit y=gV l x (y+1) from by simp[gV,Ck]]
         exact av (cd (y + 1) (by omega) (by first | omega | (dsimp only; omega)) (by refine Sub.cons rfl (Sub.fY rfl (by simp [jh, *]) aH)) aP)
   · skip
     obtain rfl:y=256:=by omega
     refine ay ?_;refine ad (ad (ag (xZ bw (cR fun _ df=>?_))));refine oM (oZ df ?_);refine km rfl (fun hfx=>?_) (fun hfx=>?_)
     · skip
       refine ae (oM ?_);refine oS (aD rfl (aI.aO (.own aV)) aS) ?_;refine ct (E:=Ec) (xs:=[cls l x]) (vs:=[_]) rfl rfl rfl rfl rfl (by decide) (by decide) fun b36 S36 Cn=>?_;refine bX hS (Cn.aU aM) rfl rfl rfl rfl (by show ((dT l x).length+1)*32≤_;omega) (by show (dT l x).length+1≤_;omega) rfl bh fun P4 P5 Nr IN=>?_;refine oA (ak (aq (xZ cj (ae (oM ?_)))));refine oS sD (oA (ak ?_))
       have hy:=yu hfx
       exact av (cd (x+1,_,_,Nr) ⟨by omega,by rw[hy];exact IN⟩ (by first|omega|(dsimp only;omega)) (by refine Sub.cons rfl (Sub.fY rfl (by rw[hy]) aH)) (by exact HSub.iB bh))
     · skip
       refine ax (aq (xZ cj (ae (oM ?_))));refine oS sD (oA (ak ?_))
       have hy:=Aj hfx
       exact av (cd (x+1,b,m,S) ⟨by omega,by rw[hy];exact hS⟩ (by first|omega|(dsimp only;omega)) (by refine Sub.cons rfl (Sub.fY rfl (by rw[hy]) aH)) (by exact HSub.iB bh))
 · skip
   obtain rfl:x=256:=by omega
   refine ay ?_;refine ad (ad (ag (xZ bK (cR fun _ cZ=>?_))));refine oM (oA (oZ cZ (aA ?_)));refine ?_;exact xR rfl rfl (⟨b,m,rfl,hS⟩)
end Go.Proofs.YtmompllplidphaaGreatDoor
namespace Go.Proofs.YtmompllplidphaaGreatDoor
open Go Go.HL Go.Proofs Go.HL.Kl Go.HL.Kl.Mc
set_option maxHeartbeats 1000000 in
theorem Hm (ra:Option Addr)(rc:Nat)(re:List Nd)(ey:∀ x∈re,-128≤x.op∧x.op<128):HL.Fn Tryz.prog 26 [.slice ra re.length rc] (fun w=>Rd En w (.slice ra re.length rc) re) [] (fun v _=>∃ b,v = .bool b):=by
 refine aW Tryz.func26 rfl rfl rfl fun w0 hw=>?_
 have dr:=hw.sl
 have s3:=dr.le
 refine cR fun _ bI=>?_;refine oA (oZ bI (cR fun _ bJ=>?_));refine oA (oZ bJ (ah fun _ bK=>?_));refine cR fun _ bU=>?_;refine oA (oZ bU (ai ?_))
 refine dt (fun (j:Nat)(q:Sl Int)(S:Hp)=>j≤re.length∧q.xs.length≤65536∧aG Ei 1 3 (.slice q.a q.xs.length q.c) q.xs S) (fun (j:Nat)(q:Sl Int)(S:Hp)=>[(4,.int .i64 j),(3,.slice q.a q.xs.length q.c)]) [(0,_)] (fun (j:Nat)(q:Sl Int)(S:Hp)=>S) (fun (j:Nat)(q:Sl Int)(S:Hp)=>re.length-j) 0 ⟨none,0,[]⟩ [] ⟨by omega,by simp,.nil⟩ aH aH aP ?_
 rintro j q0 S0 ⟨hj,hq0,hO0⟩
 refine ah fun _ bT=>?_;refine cR fun _ bZ=>?_;refine oM (oM ?_);refine oS sC ?_
 by_cases Ib:j<re.length
 ·obtain⟨x,hx⟩:∃ x,re[j]?=some x:=⟨_,List.getElem?_eq_getElem Ib⟩
  refine oS wg (oZ bZ ?_);refine gp bT (ah fun _ cj=>?_);refine ai (ah fun _ ck=>?_);refine ai ?_;refine cY (fun (q:Sl Int)(S:Hp)=>q.xs.length≤65536∧aG Ei 1 3 (.slice q.a q.xs.length q.c) q.xs S) (fun (q:Sl Int)(S:Hp)=>[(3,.slice q.a q.xs.length q.c)]) [(0,_),(4,_),(5,_),(6,_),(7,_),(8,_)] (fun (q:Sl Int)(S:Hp)=>S) (fun (q:Sl Int)(S:Hp)=>q.xs.length) q0 S0 ⟨hq0,hO0⟩ aH aH aP ?_
  rintro q S ⟨hq,hO⟩
  have gu:=hO.sl
  have hOc:=gu.cap
  refine ah fun _ cQ=>?_;refine cR fun _ bw=>?_;refine oM ?_;refine oS sC ?_
  by_cases hp0:(q.xs.length:Int)>0
  ·obtain⟨u,hu⟩:∃ u,q.xs[q.xs.length-1]?=some u:=gE
   have GZ:=hO.pre (q.xs.length-1) (by omega)
   have PS:(q.xs.take (q.xs.length-1)).length=q.xs.length-1:=by rw[List.length_take];omega
   refine oS Gp (oM ?_);refine oY (oM ?_);refine oY (oM ?_);refine oY ?_;refine oS sC ?_;refine oY ?_;refine oS sU ?_;refine oY ?_;refine oS (au rfl rfl gu (by omega)) ?_;refine oY ?_;refine oS (az rfl ((hO.aU aM).ld (q.xs.length-1) 0 hu rfl (by decide) (by omega))) ?_;refine oY ?_
   by_cases hle:u≤0
   ·refine oS leT ?_;refine oS sT (oZ bw ?_);refine gp cQ (ai (ae (oM (oM ?_))));refine oS sC ?_;refine oS sU ?_;refine oS (ab (v':=.slice q.a (q.xs.take (q.xs.length-1)).length q.c) (l9 rfl rfl (by omega)) (by rw[PS];congr 1;omega)) ?_;refine oA (ak (aq ?_));exact av (cd (⟨q.a,q.c,q.xs.take (q.xs.length-1)⟩,S) ⟨by rw[PS];omega,by dsimp only;rw[PS];exact GZ⟩ (by dsimp only;rw[PS];omega) aH aP)
   ·refine oS leF ?_;refine oS sT (oZ bw ?_);refine cF ?_;refine ay ?_;refine ad (ad (ag (xZ ck (ah fun _ bF=>?_))));refine cR fun _ bD=>?_;refine oM ?_;refine oS sC ?_
    by_cases kG:(q.xs.length:Int)>0
    ·obtain⟨u2,Qe⟩:∃ u,q.xs[q.xs.length-1]?=some u:=gE
     refine oS Gp (oZ bD ?_);refine cT (ae (oM (oM ?_)));refine oS sC ?_;refine oS sU (oM (oM ?_));refine oS sC ?_;refine oS sU ?_;refine oS (au rfl rfl gu (by omega)) ?_;refine oS (az rfl ((hO.aU aM).ld (q.xs.length-1) 0 Qe rfl (by decide) (by omega))) ?_;refine oS (Ef rfl rfl) ?_;refine oS (au rfl rfl gu (by omega)) ?_;refine dp (q.xs.length-1) _ hO bh rfl rfl rfl (by omega) (by omega) fun S' wH=>?_
     have hO:=wH
     refine oZ bF (cR fun _ cb=>?_);refine oM (oM (oM ?_));refine oS (au rfl rfl dr (by omega)) ?_;refine oS sF ?_;refine oS (az rfl ((cq.bj hw).ld j 8 hx rfl (by decide) (by omega))) ?_;refine ct (E:=Ei) (xs:=[x.kids]) (vs:=[_]) rfl rfl rfl rfl rfl (by decide) (by decide) fun W0 VU uA=>?_;refine bX hO (uA.aU aM) rfl rfl rfl rfl (by simp;omega) (by simp;omega) rfl bh fun MT MU Ia q7=>?_;refine oA (oZ cb (cR fun _ bL=>?_));refine oM ?_;refine oS sC ?_;refine oS (eX rfl rfl) ?_;refine oZ bL ?_
     refine cx rfl (fun pO=>?_) (fun pO=>?_)
     ·refine cR fun _ bQ=>?_;refine oA (oZ bQ (aA ?_));refine aw (aj (aj (aw (aj (?_)))))
      exact xR rfl rfl (⟨_,rfl⟩)
     ·refine ax (aq (xZ cj (ae (oM ?_))));refine oS sD (oA (ak ?_));exact xI (j+1,⟨MT,MU,_⟩,Ia) ⟨by omega,by dsimp only;omega,q7⟩
    ·refine oS Gq (oZ bD ?_);refine eL bF (cR fun _ cO=>?_);refine oM (oM (oM ?_));refine oS (au rfl rfl dr (by omega)) ?_;refine oS sF ?_;refine oS (az rfl ((cq.bj hw).ld j 8 hx rfl (by decide) (by omega))) ?_;refine ct (E:=Ei) (xs:=[x.kids]) (vs:=[_]) rfl rfl rfl rfl rfl (by decide) (by decide) fun W0 VU uA=>?_;refine bX hO (uA.aU aM) rfl rfl rfl rfl (by simp;omega) (by simp;omega) rfl bh fun MT MU Ia q7=>?_;refine oA (oZ cO (cR fun _ df=>?_));refine oM ?_;refine oS sC ?_;refine oS (eX rfl rfl) ?_;refine oZ df ?_;refine cx rfl (fun pO=>?_) (fun pO=>?_)
     ·refine cR fun _ cZ=>?_;refine oA (oZ cZ (aA ?_));refine aw (aj (aj (aw (aj (?_)))))
      exact xR rfl rfl (⟨_,rfl⟩)
     ·refine ax (aq (xZ cj (ae (oM ?_))));refine oS sD (oA (ak ?_));exact xI (j+1,⟨MT,MU,_⟩,Ia) ⟨by omega,by dsimp only;omega,q7⟩
  ·refine oS Gq (oM ?_);refine oN ?_;refine oN ?_;refine oN ?_;refine oN ?_;refine oN ?_;refine oN ?_;refine oN ?_;refine oS sP (oZ bw ?_);refine cF ?_;refine ay ?_;refine ad (ad (ag (xZ ck (ah fun _ dq=>?_))));refine cR fun _ dG=>?_;refine oM ?_;refine oS sC ?_
   by_cases kG:(q.xs.length:Int)>0
   ·obtain⟨u2,Qe⟩:∃ u,q.xs[q.xs.length-1]?=some u:=gE
    refine oS Gp (oZ dG ?_);refine cT (ae (oM (oM ?_)));refine oS sC ?_;refine oS sU (oM (oM ?_));refine oS sC ?_;refine oS sU ?_;refine oS (au rfl rfl gu (by omega)) ?_;refine oS (az rfl ((hO.aU aM).ld (q.xs.length-1) 0 Qe rfl (by decide) (by omega))) ?_;refine oS (Ef rfl rfl) ?_;refine oS (au rfl rfl gu (by omega)) ?_;refine dp (q.xs.length-1) _ hO bh rfl rfl rfl (by omega) (by omega) fun S' wH=>?_
    have hO:=wH
    refine oZ dq (cR fun _ eb=>?_);refine oM (oM (oM ?_));refine oS (au rfl rfl dr (by omega)) ?_;refine oS sF ?_;refine oS (az rfl ((cq.bj hw).ld j 8 hx rfl (by decide) (by omega))) ?_;refine ct (E:=Ei) (xs:=[x.kids]) (vs:=[_]) rfl rfl rfl rfl rfl (by decide) (by decide) fun W0 VU uA=>?_;refine bX hO (uA.aU aM) rfl rfl rfl rfl (by simp;omega) (by simp;omega) rfl bh fun MT MU Ia q7=>?_;refine oA (oZ eb (cR fun _ dL=>?_));refine oM ?_;refine oS sC ?_;refine oS (eX rfl rfl) ?_;refine oZ dL ?_
    refine cx rfl (fun pO=>?_) (fun pO=>?_)
    ·refine cR fun _ dR=>?_;refine oA (oZ dR (aA ?_));refine aw (aj (aj (aw (aj (?_)))))
     exact xR rfl rfl (⟨_,rfl⟩)
    ·refine ax (aq (xZ cj (ae (oM ?_))));refine oS sD (oA (ak ?_));exact xI (j+1,⟨MT,MU,_⟩,Ia) ⟨by omega,by dsimp only;omega,q7⟩
   ·refine oS Gq (oZ dG ?_);refine eL dq (cR fun _ dk=>?_);refine oM (oM (oM ?_));refine oS (au rfl rfl dr (by omega)) ?_;refine oS sF ?_;refine oS (az rfl ((cq.bj hw).ld j 8 hx rfl (by decide) (by omega))) ?_;refine ct (E:=Ei) (xs:=[x.kids]) (vs:=[_]) rfl rfl rfl rfl rfl (by decide) (by decide) fun W0 VU uA=>?_;refine bX hO (uA.aU aM) rfl rfl rfl rfl (by simp;omega) (by simp;omega) rfl bh fun MT MU Ia q7=>?_;refine oA (oZ dk (cR fun _ dE=>?_));refine oM ?_;refine oS sC ?_;refine oS (eX rfl rfl) ?_;refine oZ dE ?_;refine cx rfl (fun pO=>?_) (fun pO=>?_)
    ·refine cR fun _ dS=>?_;refine oA (oZ dS (aA ?_));refine aw (aj (aj (aw (aj (?_)))))
     exact xR rfl rfl (⟨_,rfl⟩)
    ·refine ax (aq (xZ cj (ae (oM ?_))));refine oS sD (oA (ak ?_));exact xI (j+1,⟨MT,MU,_⟩,Ia) ⟨by omega,by dsimp only;omega,q7⟩
 ·refine oS wh (oZ bZ ?_);refine cF ?_;refine ay ?_;refine ad (ad (ag (xZ bK (cR fun _ dW=>?_))));refine oA (oZ dW (aA ?_));refine ?_;exact xR rfl rfl (⟨_,rfl⟩)
theorem Jo (ra:Option Addr)(rc:Nat)(re:List Nd)(ey:∀ x∈re,-128≤x.op∧x.op<128):HL.Fn Tryz.prog 30 [.slice ra re.length rc] (fun w=>Rd En w (.slice ra re.length rc) re) [] (fun v _=>v = .bool (ez re)):=by
 refine aW Tryz.func30 rfl rfl rfl fun w0 hw=>?_
 have dr:=hw.sl
 have s3:=dr.le
 refine cR fun _ bI=>?_;refine oA (oZ bI (ah fun _ bJ=>?_));refine cR fun _ bK=>?_;refine oM ?_;refine ar (lN ra rc re ey) rfl rfl rfl (fun w st=>(cq.bj hw).out w st) (fun v5 Rt=>?_);subst Rt
 cases hs:bz re
 ·refine oS (aT rfl) ?_;refine oZ bK ?_;refine cT (cR fun _ bU=>?_);refine oA (oZ bU (aA ?_));refine aj (?_);exact xR rfl rfl ((congrArg Value.bool (A1 hs).symm))
 ·refine oS (aT rfl) ?_;refine oZ bK ?_;refine eL bJ (ah fun _ bT=>?_);refine cR fun _ bZ=>?_;refine oA (oZ bZ (ai ?_))
  refine aL (fun (j:Nat)=>j≤re.length∧∀ q (x:Nd),q<j→re[q]?=some x→¬ x.op=8) (fun (j:Nat)=>[(3,.int .i64 j)]) [(0,_)] (fun (j:Nat)=>[]) (fun (j:Nat)=>re.length-j) 0 ⟨by omega,fun q x h=>by omega⟩ aH aH aP ?_
  rintro j ⟨hj,VV⟩
  refine ah fun _ cj=>?_;refine cR fun _ ck=>?_;refine oM (oM ?_);refine oS sC ?_
  by_cases Ib:j<re.length
  ·obtain⟨x,hx⟩:∃ x,re[j]?=some x:=⟨_,List.getElem?_eq_getElem Ib⟩
   have wa:=ey x (List.mem_of_getElem? hx)
   refine oS wg (oZ ck ?_);refine gp cj (ah fun _ cQ=>?_);refine ai (cR fun _ bw=>?_);refine oM (oM ?_);refine oS (au rfl rfl dr (by omega)) ?_;refine oS sF ?_;refine oS (az rfl ((cq.bj hw).ld j 0 hx rfl (by decide) rfl)) ?_;refine oS (qg rfl (by omega)) ?_
   by_cases h8:x.op=8
   ·refine oS ij (oZ bw ?_);refine cT (cR fun _ bF=>?_);refine oA (oZ bF (aA ?_));refine aw (aj (aj (aw (aj (?_)))))
    exact xR rfl rfl ((congrArg Value.bool (pZ hs (List.mem_of_getElem? hx) h8).symm))
   ·refine oS ik (oZ bw ?_);refine cF (ax (aq (xZ cQ (ae (oM ?_)))));refine oS sD (oA (ak ?_));exact xI (j+1) ⟨by omega,xF VV hx h8⟩
  ·obtain rfl:j=re.length:=by omega
   refine oS wh (oZ ck ?_);refine cF ?_;refine ay ?_;refine ad (ad (ag (xZ bT (cR fun _ bD=>?_))));refine oA (oZ bD (aA ?_));refine ?_;exact xR rfl rfl ((congrArg Value.bool (Fs VV).symm))
theorem AB (ra:Option Addr)(rc:Nat)(re:List Nd)(ey:∀ x∈re,-128≤x.op∧x.op<128):HL.Fn Tryz.prog 31 [.slice ra re.length rc] (fun w=>Rd En w (.slice ra re.length rc) re) [] (fun v _=>∃ n:Nat,v = .int .i64 n∧n≤16385∧(bz re=true→∃ x ks,Mc.iR re x ks∧n=cut ((F.nd x ks .nil).weight))):=by
 refine aW Tryz.func31 rfl rfl rfl fun w0 hw=>?_;refine cR fun _ bI=>?_;refine oA (oZ bI (ah fun _ bJ=>?_));refine cR fun _ bK=>?_;refine oM ?_;refine ar (lN ra rc re ey) rfl rfl rfl (fun w st=>(cq.bj hw).out w st) (fun v6 V4=>?_);subst V4
 cases iC:bz re
 ·refine oS (aT rfl) ?_;refine oZ bK ?_;refine cT (cR fun _ bU=>?_);refine oA (oZ bU (aA ?_));refine aj (?_);exact xR rfl rfl (⟨0,rfl,by omega,fun h=>absurd h (by rw[iC];decide)⟩)
 ·obtain⟨_,x,ks,hs⟩:=gm.1 iC
  refine oS (aT rfl) ?_;refine oZ bK ?_;refine eL bJ (cR fun _ bT=>?_);refine oM ?_;refine ar (xG (ks.size+1) x ks (by omega) ra rc re 0 _ ey hs.part) rfl rfl rfl (fun w st=>(cq.bj hw).out w st) (fun v10 nQ=>?_);subst nQ
  refine oM ?_;refine oS sE ?_;refine oS sE (oA (oA (oZ bT (cR fun _ bZ=>?_))));refine oM (oA (oZ bZ (aA ?_)));refine ?_;exact xR rfl rfl (⟨_,rfl,jG _,fun _=>⟨x,ks,hs,rfl⟩⟩)
end Go.Proofs.YtmompllplidphaaGreatDoor
namespace Go.HL.cm
open Go Go.HL Go.HL.Kl Go.HL.Kl.Mc
theorem PO (re:List Nd):0<(B5 re).length:=by unfold B5;rw[List.length_map];exact (ig _).1
theorem Vw (re:List Nd):∀ b∈B5 re,b<256:=fun b hb=>by
 unfold B5 at hb
 obtain⟨a,_,rfl⟩:=List.mem_map.1 hb
 exact rJ a
theorem Xh {re:List Nd}{n:Nd}{ks:F}(hS:Mc.iR re n ks)(hn:∀ y∈re,¬ y.op=8){sets:List (List cN)}{next:List (List Nat)}{ends:List Bool}{q:Nat}(hW:WR re n ks (B5 re) sets next ends q)(hq:sets.length≤q){P:List Nat}{L:List Bool}{i:Nat}(hP:C3 next ends (B5 re).length P)(hL:l6 next ends L)(hm:(lT ⟨[],next,ends⟩ P L i).met.length≤i)(hj:∀ j,j<i→j<(lT ⟨[],next,ends⟩ P L j).met.length):RfM re n ks (lT ⟨[],next,ends⟩ P L i):=by
 refine⟨⟨⟨[],next,ends⟩,P,L,i,hW.ok hq (PO re),hP,hL,rfl,hm,hj,fun t ht=>?_⟩⟩
 have h:=hW.acc hS hn hq (Vw re) ht (w:=t.map fun k=>UInt8.ofNat ((B5 re)[k]?.getD 0)) rfl t.length 0 0 _ (by omega) hW.z (by omega)
 rw[List.drop_zero] at h
 show jB next ends 0 t=true↔_
 rw[h,List.length_map]
 constructor
 · rintro⟨s,hs,h1⟩
   rw[List.mem_singleton.1 hs] at h1
   obtain⟨m,h2,h3⟩:=h1
   have h3:m=t.length:=h3
   rw[h3] at h2
   exact (jl hS.part).1 h2
 · intro hd
   exact⟨_,List.mem_singleton.2 rfl,t.length,(jl hS.part).2 hd,rfl⟩
structure MkS where
 ma:Option Addr
 mc:Nat
 ml:List Nat
 Sm:Hp
 xa:Option Addr
 xc:Nat
 xr:List (Sl Int)
 Sx:Hp
 tn:Hp
 ya:Option Addr
 yc:Nat
 ye:List Bool
 Sy:Hp
def adv (P met:List Nat)(L:List Bool)(x:Nat)(lx:Bool)(val:Int):Prop:=(lx=false∧val = -1)∨(lx=true∧val<0∧jQ P L met x=((met.length:Int),met++[x]))∨(lx=true∧¬ val<0∧jQ P L met x=(val,met))
end Go.HL.cm
