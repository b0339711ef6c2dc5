/- Part of the proofs over this seat: see the text that holds the theorem. Conditions: each theorem bears its own. -/
import Derived.Test.YtmompllplidphaaGreatDoorHTZ
import Derived.Test.YtmompllplidphaaGreatDoorGSN4Z
import Derived.Test.YtmompllplidphaaGreatDoorHlB
import GoSem.Instr.MapUpdate
import GoSem.Instr.MakeMap
import Derived.Test.YtmompllplidphaaGreatDoorSM1Z
import Derived.Test.YtmompllplidphaaGreatDoorGSW2Z
namespace Go.Proofs.YtmompllplidphaaGreatDoor
open Go Go.HL Go.Proofs Go.HL.Kl Go.HL.Kl.Mc Go.HL.cm
set_option maxHeartbeats 2000000 in
theorem MJ (n:Nd)(ks:F)(ih:∀ y js,js.size<ks.size→Br Tryz.prog y js)(bx:Nat)(ra:Option Addr)(rc:Nat)(re:List Nd)(i i1:Nat)(X:fk)(S:Hp)(hP:xA bx ra rc re.length X S)(hp:Part re (.nd n ks .nil) i i1)(iC:bz re=true)(ey:∀ x∈re,-128≤x.op∧x.op<128)(hc:X.sets.length+eM n ks≤20)(mH:X.fol.length=X.sets.length):HL.Fn Tryz.prog 39 [.pointer (some ⟨bx,0,none⟩),.int .i64 i] (fun w=>Rd En w (.slice ra re.length rc) re∧ew (keys S) (.slice ra re.length rc)) S (fun v S'=>∃ S2,HSub S' S2∧v = .agg (dm ((aZ n ks X).1)).toArray∧xA bx ra rc re.length (aZ n ks X).2 S2):=by
 refine aW Tryz.func39 rfl rfl rfl fun w0 hw=>?_
 have dr:=hw.1.sl
 have s3:=dr.le
 have hx:=hp.head.1
 have B4:=(List.getElem?_eq_some_iff.1 hx).1
 have EI:(0:Nat)+(ks.num:Int)=n.kids:=by have:=hp.wf.2.1;omega
 have hle:=hp.le
 have qH:=hp.len
 simp only[F.size,Nat.add_zero] at qH
 have hkp:Part re ks (i+1) i1:=by have h1:=hp.head.2.1;rwa [show i+1+ks.size=i1 by omega] at h1
 have aqu:=ey n (List.mem_of_getElem? hx)
 have xJ:=ks.ju
 refine cR fun _ bI=>?_;refine aB (l:=dm bN) (by rfl) rfl fun b4=>?_;refine oZ bI (cR fun _ bJ=>?_);refine oM ?_;refine oS sN ?_;refine oS sF ?_;refine oS (az rfl (hP.UE aM)) ?_;refine oM ?_;refine oS (au rfl rfl (by assumption) (by omega)) ?_;refine oS (aD rfl ((cq.old (κ:=⟨_,[],w0,_⟩) hw.1 hw.2).gx i hx (by omega)) aS) ?_;refine aB (l:=En zN) (by rw[gI];rfl) rfl fun b5=>?_;refine bf rfl rfl bY aS aS fE ?_;refine oZ bJ (cR fun _ bK=>?_);refine aB (l:=dm bN) (by rfl) rfl fun b6=>?_;refine oZ bK (ah fun _ bU=>?_);refine cR fun _ bT=>?_;refine oS sF ?_;refine oS sL (oZ bT (ai (cR fun _ bZ=>?_)))
 by_cases h1:n.op=1
 ·obtain⟨sa,sc,fa,fc,Ss,Sf,rfl,hs,hf⟩:=hP
  rw[Am h1] at hc
  refine oS (ij (h:=h1)) ?_;refine oA (oZ bZ ?_);refine cT (cR fun _ cj=>?_);refine oM ?_;refine oS sN ?_;refine oS sF ?_;refine oS sL ?_;refine oS sC (oA (oZ cj (ah fun _ ck=>?_)));refine aK ([(bx,.cells [.slice ra re.length rc,.slice sa X.sets.length sc,.slice fa X.fol.length fc].toArray 86 (0,0)),(b5,.cells (En n).toArray 42 (0,0))]) (fun i=>Nat.beq i 11) ?_;refine eP 0 rfl sM ?_;refine eP 1 rfl sM ?_;refine eP 2 rfl sN ?_;refine eP 3 rfl sF ?_;refine eK 4 rfl sL ?_;refine eP 5 rfl sF ?_;refine eK 6 rfl (aD rfl (aI.aO (aI.l3 aV Qc)) aS) ?_;refine eO 7 rfl ?_;refine ct (E:=Ec) (xs:=[n.set]) (vs:=[_]) rfl rfl rfl rfl rfl (by decide) (by decide) fun b36 S36 Cn=>?_;refine oX (eO 8 rfl ?_);refine bX hs (Cn.aU aM) rfl rfl rfl rfl (by simp only[List.length_append,List.length_singleton];omega) (by simp only[List.length_append,List.length_singleton];omega) rfl bh fun P4 P5 Nr IN=>?_;refine oX ?_;refine eP 9 rfl sN ?_;refine eP 10 rfl sF (eO 11 rfl ?_);refine bg rfl rfl rfl bY kD rfl ?_;refine ak ?_;refine cE rfl ?_;refine cw (by kernel_rfl) ?_
  refine xZ ck (cR fun _ cQ=>?_);refine oM (oM ?_);refine oS sN ?_;refine oS sF ?_;refine oS sL ?_;refine oS (fX rfl) ?_;refine ct (E:=E3) (xs:=[(0:Sp)]) (vs:=[_]) rfl rfl rfl rfl rfl (by decide) (by decide) fun b46 S46 G4=>?_;refine bX hf (G4.aU aM) rfl rfl rfl rfl (by simp only[List.length_append,List.length_singleton];omega) (by simp only[List.length_append,List.length_singleton];omega) rfl bh fun Tn To Tp yC=>?_;refine oS sN ?_;refine oS sF ?_;refine bg rfl rfl rfl bY kD rfl ?_;refine oZ cQ (cR fun _ bw=>?_);refine oS (fX rfl) ?_;refine oM ?_;refine ar (Fj 0 X.sets.length (by omega)) rfl rfl rfl (fun _ _=>trivial) (fun v52 uC=>?_)
  rw[cm.or_zero] at uC
  subst uC;refine aB (l:=E3 0) (by rfl) rfl fun b8=>?_;refine bf rfl rfl bY aS aS fE ?_;refine oZ bw ?_;refine aK ([(b8,.cells (E3 (xd X.sets.length)).toArray 90 (0,0))]) (fun i=>false) ?_;refine eK 0 rfl (aD rfl (aI.aO (.own aV)) aS) ?_;refine eK 1 rfl (aD rfl (aI.aO (.own aV)) aS) ?_;refine eK 3 rfl (aD rfl (aI.aO (.own aV)) aS) ?_;refine eK 4 rfl (aD rfl (aI.aO (.own aV)) aS) ?_;refine eP 2 rfl (dz (cs:=[_,_,_,_,_,_]) (vs:=[_,_]) rfl rfl (.cons rfl rfl rfl rfl (.cons rfl rfl rfl rfl (.nil)))) ?_;refine eP 5 rfl (dz (cs:=[_,_,_,_,_,_]) (vs:=[_,_]) rfl rfl (.cons rfl rfl rfl rfl (.cons rfl rfl rfl rfl (.nil)))) ?_;refine eP 6 rfl sF (eO 7 rfl ?_);refine fK (l:=dm bN) (off:=4) (cs:=E3 (xd X.sets.length)++E3 (xd X.sets.length)) rfl rfl rfl (fun v hv=>by rcases List.mem_append.1 hv with h|h <;> exact l4 _ v h) bY (Nat.le_of_ble_eq_true rfl) (fun _ _=>sG) ?_;refine oX ?_;refine eP 8 rfl sF (eO 9 rfl ?_);refine fK (l:=bP (dm bN) 4 (E3 (xd X.sets.length)++E3 (xd X.sets.length))) (off:=10) (cs:=E3 (xd X.sets.length)++E3 (xd X.sets.length)) rfl rfl rfl (fun v hv=>by rcases List.mem_append.1 hv with h|h <;> exact l4 _ v h) bY (Nat.le_of_ble_eq_true rfl) (fun _ _=>sG) ?_
  rw[Jb]
  refine oX ?_;refine cw (by kernel_rfl) ?_;refine aq (xZ bU (cR fun _ bF=>?_));refine oS (aD rfl (aI.aO (.own aV)) aS) ?_;refine bf rfl rfl bY aS aS fE ?_;refine oZ bF (aA ?_);refine ?_;exact cr rfl (.agg inferInstance inferInstance rfl (aI.aO (.own aV)) aS (.nil)) (⟨(bx,.cells [.slice ra re.length rc,.slice P4 (X.sets++[n.set]).length P5,.slice Tn (X.fol++[0]).length To].toArray 86 (0,0))::(Tp++Nr),by exact aP,by rw[qR h1];rfl,by rw[qR h1];exact⟨_,_,_,_,_,_,rfl,IN,yC⟩⟩)
 ·refine oS (ik (h:=h1)) ?_;refine oA (oZ bZ ?_);refine cF (cR fun _ bD=>?_)
  by_cases h2:n.op=2
  ·refine oS (ij (h:=h2)) ?_;refine oA (oZ bD ?_);refine cT (ae ?_);refine oS (dz (cs:=[_,_]) (vs:=[_,_]) rfl rfl (.cons rfl rfl rfl rfl (.cons rfl rfl rfl rfl (.nil)))) ?_;refine oS sF ?_;refine oS (aQ rfl rfl (by omega)) ?_;refine fK (l:=dm bN) (off:=2) (cs:=[.bool true,.bool true]) rfl rfl rfl (fun v hv=>by simp at hv;subst hv;rfl) bY (Nat.le_of_ble_eq_true rfl) (fun _ _=>sG) ?_
   rw[Gt]
   refine ak (aq (xZ bU (cR fun _ cb=>?_)));refine oS (aD rfl (aI.aO (.own aV)) aS) ?_;refine bf rfl rfl bY aS aS fE ?_;refine oZ cb (aA ?_);refine ?_;exact cr rfl (.agg inferInstance inferInstance rfl (aI.aO (.own aV)) aS (.nil)) (⟨S,by exact aP,by rw[mO h2];rfl,by rw[mO h2];exact hP⟩)
  ·refine oS (ik (h:=h2)) ?_;refine oA (oZ bD ?_);refine cF (cR fun _ bL=>?_)
   by_cases h3:n.op=3
   ·refine oS (ij (h:=h3)) ?_;refine oA (oZ bL ?_);refine cT (ae ?_);refine oS sF ?_;refine oS (aQ rfl rfl (by omega)) ?_;refine oS (aQ rfl rfl (by omega)) ?_;refine bg (l:=dm bN) (off:=1) rfl rfl rfl bY (by decide) rfl ?_;refine oS sF ?_;refine oS (aQ rfl rfl (by omega)) ?_;refine oS (aQ rfl rfl (by omega)) ?_;refine bg (l:=(dm bN).set 1 (.bool true)) (off:=3) rfl rfl rfl bY (by decide) rfl ?_
    rw[NP]
    refine ak (aq (xZ bU (cR fun _ bQ=>?_)));refine oS (aD rfl (aI.aO (.own aV)) aS) ?_;refine bf rfl rfl bY aS aS fE ?_;refine oZ bQ (aA ?_);refine ?_;exact cr rfl (.agg inferInstance inferInstance rfl (aI.aO (.own aV)) aS (.nil)) (⟨S,by exact aP,by rw[qS h3];rfl,by rw[qS h3];exact hP⟩)
   ·refine oS (ik (h:=h3)) ?_;refine oA (oZ bL ?_);refine cF (cR fun _ cO=>?_)
    by_cases h6:n.op=6
    ·obtain⟨y,js,rfl⟩:=eN hp.wf (.inl h6)
     have nI:=um hp.wf.1 h6
     have Gd:=(dy.1 (by have:=hp.wf.1;simp only[eH,Bool.and_eq_true] at this;exact this.1)).2.2.2.1 h6
     obtain⟨mn,wm⟩:∃ k:Nat,n.mn=k:=⟨n.mn.toNat,by omega⟩
     rw[An h6,j0] at hc
     unfold pz at hc
     rw[wm,Int.toNat_natCast] at hc
     refine oS (ij (h:=h6)) ?_;refine oA (oZ cO ?_);refine cT (cR fun _ df=>?_);refine oM (oM ?_);refine oS sD ?_;refine oS sF ?_;refine oS (ab (v':=.int .i64 (mn:Int)) (az rfl (.own aV rfl)) (by rw[wm])) ?_;refine oS sF ?_;refine oS sL ?_;refine aX (UI y js (ih y js (by simp only[F.size];omega)) hkp.wf bx ra rc re (i+1) i1 X S hP hkp iC ey mn n.mx (by omega) (by omega) hc mH) rfl rfl rfl (bh) (fun w st=>⟨(cq.old hw.1 hw.2).out w st,St.di st (by exact yn) hw.1 hw.2 (by decide)⟩) (fun v83 US ⟨SK,ahf⟩=>?_)
     subst SK;refine bf rfl rfl bY aS aS fE ?_;refine oZ df (aA ?_);refine aw (aj (?_))
     exact cr rfl (.agg inferInstance inferInstance rfl (aI.aO (.own aV)) aS (.nil)) (⟨US,by exact aP,by rw[qV h6,wm];rfl,by rw[qV h6,wm];exact ahf⟩)
    ·refine oS (ik (h:=h6)) ?_;refine oA (oZ cO ?_);refine cF (cR fun _ cZ=>?_)
     by_cases h7:n.op=7
     ·obtain⟨y,js,rfl⟩:=eN hp.wf (.inr h7)
      rw[np (.inr (.inr h7)),j0] at hc
      refine oS (ij (h:=h7)) ?_;refine oA (oZ cZ ?_);refine cT (cR fun _ dq=>?_);refine oM (oM ?_);refine oS sD ?_;refine aX (ih y js (by simp only[F.size];omega) bx ra rc re (i+1) i1 X S hP hkp iC ey hc mH) rfl rfl rfl (bh) (fun w st=>⟨(cq.old hw.1 hw.2).out w st,St.di st (by exact yn) hw.1 hw.2 (by decide)⟩) (fun v89 S89 ⟨ahg,ahh⟩=>?_);subst ahg
      refine bf rfl rfl bY aS aS fE ?_;refine oZ dq (aA ?_);refine aw (aj (?_))
      exact cr rfl (.agg inferInstance inferInstance rfl (aI.aO (.own aV)) aS (.nil)) (⟨S89,by exact aP,by rw[mP h7];rfl,by rw[mP h7];exact ahh⟩)
     ·refine oS (ik (h:=h7)) ?_;refine oA (oZ cZ ?_);refine cF (cR fun _ dG=>?_)
      by_cases h4:n.op=4
      ·refine oS (ij (h:=h4)) ?_;refine oA (oZ dG ?_);refine cT (cR fun _ eb=>?_);refine ar (jI) rfl rfl rfl (fun _ _=>trivial) (fun v92 ahi=>?_);subst ahi
       refine bf rfl rfl bY aS aS fE ?_;refine oZ eb (cR fun _ dL=>?_);refine oM ?_;refine oS sD (oA (oA (oZ dL (ai ?_))));refine jY (fun (m:Nat)(vZ:Nat)(g:F)(c:Pt)(Xc:fk)(Sc:Hp)=>Part re g vZ i1∧(m:Int)+g.num=n.kids∧g.size≤ks.size∧dx g false c Xc=dx ks false bu X∧Xc.sets.length+gB g≤20∧Xc.fol.length=Xc.sets.length∧xA bx ra rc re.length Xc Sc) (fun (m:Nat)(vZ:Nat)(g:F)(c:Pt)(Xc:fk)(Sc:Hp)=>[(10,.int .i64 m),(9,.int .i64 vZ)]) [(0,_),(4,_),(5,_),(6,_)] (fun (m:Nat)(vZ:Nat)(g:F)(c:Pt)(Xc:fk)(Sc:Hp)=>(b6,.cells (dm (c)).toArray 93 (0,0))::(b5,.cells (En n).toArray 42 (0,0))::(b4,.cells (dm bN).toArray 93 (0,0))::Sc) (fun (m:Nat)(vZ:Nat)(g:F)(c:Pt)(Xc:fk)(Sc:Hp)=>g.num) 0 (i+1) ks bu X S ⟨hkp,EI,Nat.le_refl _,rfl,by rw[← np (n:=n) (by omega)];exact hc,mH,hP⟩ aH aH aP ?_
       rintro m vZ g c Xc Sc ⟨yF,hmg,hgs,sB,IB,Ri,hPc⟩
       have zY:=yF.len
       have KO:=yF.le
       have Qb:=g.ju
       refine ah fun _ dR=>?_;refine cR fun _ dk=>?_;refine oM ?_;refine oS sF ?_;refine oS sL ?_
       by_cases QT:(m:Int)<n.kids
       ·obtain⟨y,js,r,rfl⟩:∃ y js r,g=F.nd y js r:=by cases g with|nil=>simp only[F.num] at hmg;omega|nd y a c=>exact⟨y,a,c,rfl⟩
        have NU:js.size<ks.size:=by simp only[F.size] at hgs;omega
        have hwy:=yF.one.wf
        rw[s7] at IB
        have hq:=nA hwy Xc Ri
        simp only[F.num] at hmg
        simp only[F.size] at zY
        refine oS (wg (h:=QT)) ?_;refine oZ dk ?_;refine gp dR (ah fun _ dE=>?_);refine ai (ah fun _ dS=>?_);refine aK ([(b6,.cells (dm (c)).toArray 93 (0,0))]) (fun i=>Nat.beq i 6) ?_;refine eP 0 rfl sM ?_;refine eK 1 rfl (aD rfl (aI.aO (.own aV)) aS) ?_;refine eP 2 rfl sM ?_;refine eP 3 rfl sM (eO 4 rfl ?_);refine aX (ih y js NU bx ra rc re vZ (vZ+1+js.size) Xc Sc hPc yF.one iC ey (by omega) Ri) rfl rfl rfl (bh) (fun w st=>⟨(cq.old hw.1 hw.2).out w st,St.di st (by exact yn) hw.1 hw.2 (by decide)⟩) (fun aqv Xw ⟨aaO,aaP⟩=>?_);subst aaO
        refine oX (eO 5 rfl ?_);refine aX (qy bx ra rc re.length _ _ aaP c _ (by omega)) rfl rfl rfl (bh) (fun _ _=>trivial) (fun aqw Ts ⟨aaQ,Q8⟩=>?_);subst aaQ
        refine oX (eO 6 rfl ?_);refine bf rfl rfl bY aS aS fE ?_;refine ak ?_;refine cE rfl ?_;refine eZ dS (ae (oM ?_));refine oS sN ?_;refine oS sF ?_;refine oS (az rfl (Q8.UE aM)) ?_;refine oM ?_;refine ar (xS ra rc re ey iC y js vZ (vZ+1+js.size) yF.one) rfl rfl rfl (fun w st=>(cq.old hw.1 hw.2).out w st) (fun aqx aaR=>?_);subst aaR
        refine oA (ak (aq (xZ dE (ae (oM ?_)))));refine oS sD (oA (ak ?_));exact av (cd (m+1,vZ+1+js.size,r,ji c (aZ y js Xc).1,(aZ y js Xc).2.join c.l0 (aZ y js Xc).1.f0,Ts) ⟨yF.head.2.2,by dsimp only;omega,by simp only[F.size] at hgs;dsimp only;omega,by rw[← sB,qW];rfl,by show (aZ y js Xc).2.sets.length+gB r≤20;omega,by show (fl _ _ _).length=_;rw[ef];exact hq.2,Q8⟩ (by simp only[F.num];omega) aH aP)
       ·obtain rfl:g=F.nil:=F.yG (by omega)
        refine oS (wh (h:=QT)) ?_;refine oZ dk ?_;refine cF ?_;refine ay ?_;refine ad (ad (ag (aq (xZ bU (cR fun _ dW=>?_)))));refine oS (aD rfl (aI.aO (.own aV)) aS) ?_;refine bf rfl rfl bY aS aS fE ?_;refine oZ dW (aA ?_);refine ?_
        simp only[dx] at sB
        exact cr rfl (.agg inferInstance inferInstance rfl (aI.aO (.own aV)) aS (.nil)) (⟨Sc,by exact aP,by rw[qT h4,← sB];rfl,by rw[qT h4,← sB];exact hPc⟩)
      ·refine oS (ik (h:=h4)) ?_;refine oA (oZ dG ?_);refine cF (cR fun _ ee=>?_)
       by_cases h5:n.op=5
       ·refine oS (ij (h:=h5)) ?_;refine oA (oZ ee ?_);refine cT (cR fun _ eh=>?_);refine oM ?_;refine oS sD (oA (oA (oZ eh (ai ?_))));refine jY (fun (m:Nat)(vZ:Nat)(g:F)(c:Pt)(Xc:fk)(Sc:Hp)=>Part re g vZ i1∧(m:Int)+g.num=n.kids∧g.size≤ks.size∧dx g true c Xc=dx ks true bN X∧Xc.sets.length+gB g≤20∧Xc.fol.length=Xc.sets.length∧xA bx ra rc re.length Xc Sc) (fun (m:Nat)(vZ:Nat)(g:F)(c:Pt)(Xc:fk)(Sc:Hp)=>[(12,.int .i64 m),(11,.int .i64 vZ)]) [(0,_),(4,_),(5,_),(6,_)] (fun (m:Nat)(vZ:Nat)(g:F)(c:Pt)(Xc:fk)(Sc:Hp)=>(b6,.cells (dm (c)).toArray 93 (0,0))::(b5,.cells (En n).toArray 42 (0,0))::(b4,.cells (dm bN).toArray 93 (0,0))::Sc) (fun (m:Nat)(vZ:Nat)(g:F)(c:Pt)(Xc:fk)(Sc:Hp)=>g.num) 0 (i+1) ks bN X S ⟨hkp,EI,Nat.le_refl _,rfl,by rw[← np (n:=n) (by omega)];exact hc,mH,hP⟩ aH aH aP ?_
        rintro m vZ g c Xc Sc ⟨yF,hmg,hgs,sB,IB,Ri,hPc⟩
        have zY:=yF.len
        have KO:=yF.le
        have Qb:=g.ju
        refine ah fun _ eD=>?_;refine cR fun _ dN=>?_;refine oM ?_;refine oS sF ?_;refine oS sL ?_
        by_cases QT:(m:Int)<n.kids
        ·obtain⟨y,js,r,rfl⟩:∃ y js r,g=F.nd y js r:=by cases g with|nil=>simp only[F.num] at hmg;omega|nd y a c=>exact⟨y,a,c,rfl⟩
         have NU:js.size<ks.size:=by simp only[F.size] at hgs;omega
         have hwy:=yF.one.wf
         rw[s7] at IB
         have hq:=nA hwy Xc Ri
         simp only[F.num] at hmg
         simp only[F.size] at zY
         refine oS (wg (h:=QT)) ?_;refine oZ dN ?_;refine gp eD (ah fun _ e6=>?_);refine ai (ah fun _ du=>?_);refine aK ([(b6,.cells (dm (c)).toArray 93 (0,0))]) (fun i=>Nat.beq i 5) ?_;refine eK 0 rfl (aD rfl (aI.aO (.own aV)) aS) ?_;refine eP 1 rfl sM ?_;refine eP 2 rfl sM (eO 3 rfl ?_);refine aX (ih y js NU bx ra rc re vZ (vZ+1+js.size) Xc Sc hPc yF.one iC ey (by omega) Ri) rfl rfl rfl (bh) (fun w st=>⟨(cq.old hw.1 hw.2).out w st,St.di st (by exact yn) hw.1 hw.2 (by decide)⟩) (fun afu ahk ⟨FK,Q9⟩=>?_);subst FK
         refine oX (eO 4 rfl ?_);refine ar (DD c _) rfl rfl rfl (fun _ _=>trivial) (fun aqy aaS=>?_);subst aaS
         refine oX (eO 5 rfl ?_);refine bf rfl rfl bY aS aS fE ?_;refine ak ?_;refine cE rfl ?_;refine eZ du (ae (oM ?_));refine oS sN ?_;refine oS sF ?_;refine oS (az rfl (Q9.UE aM)) ?_;refine oM ?_;refine ar (xS ra rc re ey iC y js vZ (vZ+1+js.size) yF.one) rfl rfl rfl (fun w st=>(cq.old hw.1 hw.2).out w st) (fun aqz aaT=>?_);subst aaT
         refine oA (ak (aq (xZ e6 (ae (oM ?_)))));refine oS sD (oA (ak ?_));exact av (cd (m+1,vZ+1+js.size,r,ib c (aZ y js Xc).1,(aZ y js Xc).2,ahk) ⟨yF.head.2.2,by dsimp only;omega,by simp only[F.size] at hgs;dsimp only;omega,by rw[← sB,qX],by show (aZ y js Xc).2.sets.length+gB r≤20;omega,by exact hq.2,Q9⟩ (by simp only[F.num];omega) aH aP)
        ·obtain rfl:g=F.nil:=F.yG (by omega)
         refine oS (wh (h:=QT)) ?_;refine oZ dN ?_;refine cF ?_;refine ay ?_;refine ad (ad (ag (aq (xZ bU (cR fun _ fF=>?_)))));refine oS (aD rfl (aI.aO (.own aV)) aS) ?_;refine bf rfl rfl bY aS aS fE ?_;refine oZ fF (aA ?_);refine ?_
         simp only[dx] at sB
         exact cr rfl (.agg inferInstance inferInstance rfl (aI.aO (.own aV)) aS (.nil)) (⟨Sc,by exact aP,by rw[qU h5,← sB];rfl,by rw[qU h5,← sB];exact hPc⟩)
       ·refine oS (ik (h:=h5)) ?_;refine oA (oZ ee ?_);refine cF (ax (aq (xZ bU (cR fun _ fx=>?_))));refine oS (aD rfl (aI.aO (.own aV)) aS) ?_;refine bf rfl rfl bY aS aS fE ?_;refine oZ fx (aA ?_);refine ?_;exact cr rfl (.agg inferInstance inferInstance rfl (aI.aO (.own aV)) aS (.nil)) (⟨S,by exact aP,by rw[xf h1 h2 h3 h4 h5 h6 h7];rfl,by rw[xf h1 h2 h3 h4 h5 h6 h7];exact hP⟩)
theorem BV:∀ (m:Nat)(n:Nd)(ks:F),ks.size<m→Br Tryz.prog n ks
 | 0=>fun _ _ h=>absurd h (Nat.not_lt_zero _)
 | m+1=>fun n ks hm bx ra rc re i i1 X S hP hp iC ey hc mH=>HL.Fn.sub (MJ n ks (fun y js h=>BV m y js (by omega)) bx ra rc re i i1 X S hP hp iC ey hc mH) fun v S' ⟨S2,h1,h2⟩=>⟨S2,h1,h2⟩
theorem O7 (n:Nd)(ks:F):Br Tryz.prog n ks:=BV (ks.size+1) n ks (Nat.lt_succ_self _)
end Go.Proofs.YtmompllplidphaaGreatDoor
namespace Go.HL
open Go
structure Ky where
 a:Int
 b:Int
 c:Int
 d:Int
 deriving DecidableEq
def Ek (k:Ky):List Value:=[.int .i64 k.a,.int .i64 k.b,.int .i64 k.c,.int .i64 k.d]
instance:eB Ek 4:=⟨fun _=>rfl,fun x v hv=>by
 simp only[Ek,List.mem_cons,List.not_mem_nil,or_false] at hv
 rcases hv with rfl|rfl|rfl|rfl <;> rfl⟩
structure Me where
 k:Ky
 v:Int
 born:Nat
def Me.enc (e:Me):MapEntry:={ key:=.agg (Ek e.k).toArray,val:=.int .i8 e.v,born:=e.born }
def Ey (es:List Me)(c:Nat):Obj:=.map (es.map Me.enc).toArray c
def Uf (es:List Me)(k:Ky):Int:=((es.find? (fun e=>decide (k=e.k))).map (·.v)).getD 0
def putAt (v:Int):List Me→Ky→List Me
 | [],_=>[]
 | e::es,k=>if k=e.k then { e with v:=v }::es else e::putAt v es k
section
variable {P:Program}{κ:Cx}{Q:gR}{L:Loc}{H H':Hp}{ops:Array Oper}{rest:List Oper}{ty t t':TypeId}{d:Nat}{pos:String}{af:Array Edge}{x y z:Operand}
theorem BC {β:Type}{f:β→PUnit→Sem (ForInStep PUnit)}{w:World}:∀ {l:List β},(∀ x∈l,(f x ⟨⟩).run P w = .ok (.yield ⟨⟩) w)→(forIn (m:=Sem) l PUnit.unit f).run P w = .ok ⟨⟩ w:=by
 intro l
 induction l with
 | nil=>intro _;simp
 | cons x l ih=>
   intro h
   rw[List.forIn_cons,Sem.run_bind,h x List.mem_cons_self,Result.andThen_ok]
   exact ih fun y hy=>h y (List.mem_cons_of_mem _ hy)
theorem LY {e n:Nat}{b:Bool}{v:Value} [TU P e (.int .i64)](w:World):(Instr.checkKey b (n+1) e v).run P w = .ok () w:=by
 unfold Instr.checkKey
 rw[Sem.run_bind,cS,Result.andThen_ok]
 cases v <;> simp
theorem RX (hn:Nat.blt d κ.n=true)(h:∀ b,O P κ ops Q rest ((d,.map (some b))::L) ((b,Ey [] 0)::H)):O P κ ops Q (⟨some d,.makeMap t none,ty,pos,af,none⟩::rest) L H:=
 uU (fun u H'=>∃ b,u = .map (some b)∧H'=(b,Ey [] 0)::H) hn
   (fun ρ w pos af g hρ st=>⟨_,_,_,by simp[execOp,Instr.makeMap,newObj,Sem.run,Ey],⟨_,rfl,rfl⟩,st.alloc _⟩)
   (fun u H' ⟨b,hu,hH⟩=>by subst hu;subst hH;exact h b)
end
end Go.HL
namespace Go.HL
open Go
class KE (P:Program)(kt:TypeId){κ:Type} [DecidableEq κ](Ek:κ→Value):Prop where
 eq:∀ w a b,(Op.equal kt (Ek a) (Ek b)).run P w = .ok (decide (a=b)) w
 check:∀ w b k,(Instr.checkKey b 10000 kt (Ek k)).run P w = .ok () w
 bits:∀ k,Instr.sameBits 10000 (Ek k) (Ek k)=true
 und:∃ d,P.underlying kt=some d∧((∀ k k',Instr.sameNow d (Ek k) (Ek k')=none)∨∀ k k',Instr.sameNow d (Ek k) (Ek k')=some (decide (k=k')))
structure Mx (κ:Type) where
 k:κ
 v:Value
 born:Nat
section
variable {κ:Type} [DecidableEq κ]{Ek:κ→Value}
def Mx.enc (Ek:κ→Value)(e:Mx κ):MapEntry:={ key:=Ek e.k,val:=e.v,born:=e.born }
def jd (Ek:κ→Value)(es:List (Mx κ))(c:Nat):Obj:=.map (es.map (Mx.enc Ek)).toArray c
def getM (es:List (Mx κ))(k:κ):Option Value:=(es.find? (fun e=>decide (k=e.k))).map (·.v)
def wG (v:Value):List (Mx κ)→κ→List (Mx κ)
 | [],_=>[]
 | e::es,k=>if k=e.k then { e with v:=v }::es else e::wG v es k
theorem Jn (k:κ):getM ([]:List (Mx κ)) k=none:=rfl
theorem fv (e:Mx κ)(es:List (Mx κ))(k:κ):getM (e::es) k=if k=e.k then some e.v else getM es k:=by
 unfold getM
 by_cases h:k=e.k <;> simp[List.find?_cons,h]
theorem getM_none {es:List (Mx κ)}{k:κ}(h:∀ e∈es,k≠e.k):getM es k=none:=by
 induction es with
 | nil=>rfl
 | cons e es ih=>rw[fv,if_neg (h e List.mem_cons_self)];exact ih fun e' he=>h e' (List.mem_cons_of_mem _ he)
theorem xm {es:List (Mx κ)}{k:κ}(hn:∀ e∈es,k≠e.k)(v:Value)(n:Nat)(j:κ):getM (es++[⟨k,v,n⟩]) j=if j=k then some v else getM es j:=by
 induction es with
 | nil=>simp[fv,Jn]
 | cons e es ih=>
   rw[List.cons_append,fv,fv,ih (fun e' h=>hn e' (List.mem_cons_of_mem _ h))]
   by_cases h:j=k
   · subst h;rw[if_neg (hn e List.mem_cons_self)];simp
   · simp[h]
theorem uy (v:Value):∀ (es:List (Mx κ))(k:κ),(wG v es k).length=es.length
 | [],_=>rfl
 | e::es,k=>by
   unfold wG
   split
   · rfl
   · rw[List.length_cons,uy v es k,List.length_cons]
theorem AA {es:List (Mx κ)}{k:κ}(h:∃ e∈es,k=e.k)(v:Value)(j:κ):getM (wG v es k) j=if j=k then some v else getM es j:=by
 induction es with
 | nil=>obtain⟨e,he,_⟩:=h;cases he
 | cons e es ih=>
   unfold wG
   by_cases hk:k=e.k
   · rw[if_pos hk,fv,fv]
     by_cases hj:j=k
     · simp[hj,hk]
     · rw[if_neg (by simp;rw[← hk];exact hj),if_neg hj,if_neg (by rw[← hk];exact hj)]
   · rw[if_neg hk,fv,fv,ih (by
       obtain⟨e',he,RW⟩:=h
       rcases List.mem_cons.1 he with rfl|he
       · exact absurd RW hk
       · exact⟨e',he,RW⟩)]
     by_cases hj:j=k
     · subst hj;rw[if_neg hk];simp
     · simp[hj]
end
section
variable {P:Program}{κ:Cx}{Q:gR}{L:Loc}{H:Hp}{ops:Array Oper}{rest:List Oper}{ty t kt:TypeId}{d:Nat}{pos:String}{af:Array Edge}{x:Operand}{K:Type}{Ek:K→Value}
theorem iN {w:World}{b c:Nat}{es:List (Mx K)}(h:w.heap[b]?=some (jd Ek es c)):(getObj b).run P w = .ok (jd Ek es c) w:=by
 simp[getObj,Sem.run,h,jd]
theorem iO {w:World}{b c:Nat}{es:List (Mx K)}(hb:w.heap[b]?=some (jd Ek es c))(o:Obj):(setObj b o).run P w = .ok () { w with heap:=w.heap.setIfInBounds b o }:=by
 simp[setObj,Sem.run,hb,jd]
theorem tP {vt b c:Nat}{es:List (Mx K)} [TU P t (.map kt vt)](hx:ev L x=some (.map (some b)))(hm:(b,jd Ek es c)∈H):Step P κ (.call ⟨.builtin .len,#[x],#[t]⟩) ty L H (.int .i64 es.length):=
 ⟨fun ρ w d pos af g hρ st=>by
   have ho:=iN (P:=P) (st.has _ _ hm)
   simp[execOp,resolve,invoke,builtin,Builtin.len_,hρ _ _ hx,cS,ho,jd,goInt]⟩
theorem sZ (hn:Nat.blt d κ.n=true)(h:∀ b,O P κ ops Q rest ((d,.map (some b))::L) ((b,jd Ek [] 0)::H)):O P κ ops Q (⟨some d,.makeMap t none,ty,pos,af,none⟩::rest) L H:=
 RX hn fun b=>by simpa [Ey,jd] using h b
theorem Ch {vt b c:Nat}{es:List (Mx K)}{R:Hp} [TU P t (.map kt vt)](hx:ev L x=some (.map (some b)))(gS:aJ H [(b,jd Ek es c)] R)(h:∀ c',O P κ ops Q rest L ((b,jd Ek [] c')::R)):O P κ ops Q (⟨none,.call ⟨.builtin .clear,#[x],#[t]⟩,ty,pos,af,none⟩::rest) L H:=by
 refine⟨fun ro a w iF ok=>gg rfl ?_⟩
 have e1:=ok.fr.ev hx
 have st:=ok.st.perm gS.perm
 have hb:=st.has _ _ (List.mem_cons_self)
 have ho:=iN (P:=P) hb
 have hs:=iO (P:=P) (Ek:=Ek) (es:=es) (c:=c) hb (jd Ek [] c)
 have:(execOp a.eval ⟨none,.call ⟨.builtin .clear,#[x],#[t]⟩,ty,pos,af,none⟩).run P w = .ok (.value (.tuple #[])) { w with heap:=w.heap.setIfInBounds b (jd Ek [] c) }:=by
   simp only[jd] at ho hs
   simp[execOp,resolve,invoke,builtin,Builtin.clear_,e1,cS,ho,jd]
   simp only[List.map_nil] at hs
   rw[show (Obj.map #[] c)=Obj.map ([]:List MapEntry).toArray c from rfl,hs]
   rfl
 exact qM this ((h c).out ro _ _ iF.tail ⟨ok.fr,St.put st rfl rfl rfl rfl⟩)
end
section
variable {P:Program}{κ:Cx}{Q:gR}{L:Loc}{H H':Hp}{ops:Array Oper}{rest:List Oper}{ty t t' kt:TypeId}{d:Nat}{pos:String}{af:Array Edge}{x y z:Operand}{K:Type} [DecidableEq K]{Ek:K→Value}
def Found (Ek:K→Value)(es:List (Mx K))(k:K)(i:Nat)(r:Option (Nat×Value)):Prop:=
 (r=none∧∀ e∈es,k≠e.k)∨∃ j v,r=some (i+j,v)∧getM es k=some v∧(∃ e,es[j]?=some e∧k=e.k)∧∀ u,(es.map (Mx.enc Ek)).toArray.modify j (fun e=>{ e with val:=u,key:=Ek k })=((wG u es k).map (Mx.enc Ek)).toArray
theorem Found.nil {k:K}{i:Nat}:Found Ek [] k i none:=.inl ⟨rfl,fun e h=>by cases h⟩
theorem Found.here {e:Mx K}{es:List (Mx K)}{k:K}{i:Nat}(h:k=e.k):Found Ek (e::es) k i (some (i,e.v)):=
 .inr ⟨0,e.v,by simp,by rw[fv,if_pos h],⟨e,rfl,h⟩,fun u=>by
   apply Array.ext'
   rw[Array.toList_modify]
   simp[wG,h,Mx.enc]⟩
theorem Found.later {e:Mx K}{es:List (Mx K)}{k:K}{i:Nat}{r:Option (Nat×Value)}(h:¬ k=e.k)(hc:Found Ek es k (i+1) r):Found Ek (e::es) k i r:=by
 rcases hc with ⟨h1,h2⟩|⟨j,v,h1,h2,⟨e',sH,hk⟩,h4⟩
 · exact .inl ⟨h1,fun e' sH=>by rcases List.mem_cons.1 sH with rfl|sH;exact h;exact h2 e' sH⟩
 · refine .inr ⟨j+1,v,by rw[h1];congr 2;omega,by rw[fv,if_neg h,h2],⟨e',by simpa using sH,hk⟩,fun u=>?_⟩
   have:=congrArg Array.toList (h4 u)
   rw[Array.toList_modify] at this
   apply Array.ext'
   rw[Array.toList_modify]
   simp only[wG,if_neg h,List.map_cons,List.modify_succ_cons]
   rw[show (List.map (Mx.enc Ek) es).modify j _=_ from this]
theorem GD [ke:KE P kt Ek](w:World)(k:K):∀ (es:List (Mx K))(i:Nat),∃ r,(Instr.findAsking kt (Ek k) (es.map (Mx.enc Ek)) i).run P w = .ok r w∧Found Ek es k i r:=by
 intro es
 induction es with
 | nil=>intro i;exact⟨none,by simp[Instr.findAsking],.nil⟩
 | cons e es ih=>
   intro i
   simp only[List.map_cons]
   unfold Instr.findAsking
   rw[Sem.run_bind]
   rw[show (Mx.enc Ek e).key=Ek e.k from rfl,ke.eq,Result.andThen_ok]
   by_cases h:k=e.k
   · exact⟨some (i,e.v),by simp[h,Mx.enc],.here h⟩
   · obtain⟨r,hr,hc⟩:=ih (i+1)
     exact⟨r,by simp[h,hr],.later h hc⟩
theorem GF {D:TypeDesc}(hD:∀ k k':K,Instr.sameNow D (Ek k) (Ek k')=some (decide (k=k')))(k:K):∀ (es:List (Mx K))(i:Nat),∃ r,Instr.findNow D (Ek k) (es.map (Mx.enc Ek)) i=some r∧Found Ek es k i r:=by
 intro es
 induction es with
 | nil=>intro i;exact⟨none,rfl,.nil⟩
 | cons e es ih=>
   intro i
   simp only[List.map_cons]
   unfold Instr.findNow
   rw[show (Mx.enc Ek e).key=Ek e.k from rfl,hD]
   by_cases h:k=e.k
   · exact⟨some (i,e.v),by simp[h,Mx.enc],.here h⟩
   · obtain⟨r,hr,hc⟩:=ih (i+1)
     exact⟨r,by simp[h,hr],.later h hc⟩
theorem q6 [ke:KE P kt Ek](w:World)(k:K)(es:List (Mx K)):∃ r,(Instr.findKey kt (Ek k) (es.map (Mx.enc Ek))).run P w = .ok r w∧Found Ek es k 0 r:=by
 obtain⟨D,hu,hs⟩:=ke.und
 unfold Instr.findKey
 rw[Sem.run_bind,run_underlying hu,Result.andThen_ok]
 rcases hs with hs|hs
 · obtain⟨r,hr,hc⟩:=GD (P:=P) (kt:=kt) (Ek:=Ek) w k es 0
   refine⟨r,?_,hc⟩
   cases es with
   | nil=>
     simp only[List.map_nil,Instr.findNow]
     simpa [Instr.findAsking] using hr
   | cons e es=>
     have hn:Instr.findNow D (Ek k) ((e::es).map (Mx.enc Ek)) 0=none:=by
       simp only[List.map_cons,Instr.findNow]
       rw[show (Mx.enc Ek e).key=Ek e.k from rfl,hs]
     rw[hn]
     exact hr
 · obtain⟨r,hr,hc⟩:=GF hs k es 0
   exact⟨r,by rw[hr];simp,hc⟩
theorem xn {vt b c:Nat}{es:List (Mx K)}{k:K}{zv:Value}{ok:Bool}{w:World} [ke:KE P kt Ek] [TU P t (.map kt vt)] [tz:TZ P vt zv](hm:w.heap[b]?=some (jd Ek es c)) :
   (Instr.lookup t (.map (some b)) (Ek k) ok).run P w = .ok (if ok then .tuple #[(getM es k).getD zv,.bool (getM es k).isSome] else (getM es k).getD zv) w:=by
 have ho:=iN (P:=P) hm
 obtain⟨r,hr,hc⟩:=q6 (P:=P) (kt:=kt) (Ek:=Ek) w k es
 have RY:=fun b=>ke.check w b k
 unfold Instr.lookup
 simp only[Sem.run_bind,cS,Result.andThen_ok,ho,jd,RY,Sem.run_pure]
 rw[hr]
 rcases hc with ⟨h1,h2⟩|⟨j,v,h1,h2,_⟩
 · subst h1
   rw[getM_none h2]
   simp[kQ]
 · subst h1
   rw[h2]
   simp
theorem NJ {vt b c:Nat}{es:List (Mx K)}{k:K}{zv:Value} [ke:KE P kt Ek] [TU P t (.map kt vt)] [tz:TZ P vt zv](hx:ev L x=some (.map (some b)))(hy:ev L y=some (Ek k))(hm:(b,jd Ek es c)∈H) :
   Step P κ (.lookup t x y false) ty L H ((getM es k).getD zv):=
 ⟨fun ρ w d pos af g hρ st=>by
   have hl:=xn (P:=P) (t:=t) (kt:=kt) (vt:=vt) (Ek:=Ek) (k:=k) (ok:=false) (st.has _ _ hm)
   simp[execOp,hρ _ _ hx,hρ _ _ hy,hl]⟩
theorem kI {vt b c:Nat}{es:List (Mx K)}{k:K}{zv:Value} [ke:KE P kt Ek] [TU P t (.map kt vt)] [tz:TZ P vt zv](hx:ev L x=some (.map (some b)))(hy:ev L y=some (Ek k))(hm:(b,jd Ek es c)∈H) :
   Step P κ (.lookup t x y true) ty L H (.tuple #[(getM es k).getD zv,.bool (getM es k).isSome]):=
 ⟨fun ρ w d pos af g hρ st=>by
   have hl:=xn (P:=P) (t:=t) (kt:=kt) (vt:=vt) (Ek:=Ek) (k:=k) (ok:=true) (st.has _ _ hm)
   simp[execOp,hρ _ _ hx,hρ _ _ hy,hl]⟩
theorem sY {vt b c:Nat}{es:List (Mx K)}{k:K}{u:Value}{R:Hp} [ke:KE P kt Ek] [TU P t (.map kt vt)](hx:ev L x=some (.map (some b)))(hy:ev L y=some (Ek k))(hz:ev L z=some u)
   (gS:aJ H [(b,jd Ek es c)] R)(h:∀ ob c',(∀ j,getM ob j=if j=k then some u else getM es j)→ob.length=es.length+(if (getM es k).isSome then 0 else 1)→O P κ ops Q rest L ((b,jd Ek ob c')::R)):O P κ ops Q (⟨none,.mapUpdate t x y z,ty,pos,af,none⟩::rest) L H:=by
 refine⟨fun ro a w iF ok=>gg rfl ?_⟩
 have e1:=ok.fr.ev hx
 have e2:=ok.fr.ev hy
 have e3:=ok.fr.ev hz
 have st:=ok.st.perm gS.perm
 have ho:=iN (P:=P) (st.has _ _ (List.mem_cons_self))
 obtain⟨r,hr,hc⟩:=q6 (P:=P) (kt:=kt) (Ek:=Ek) w k es
 have RY:=fun b=>ke.check w b k
 have key:∃ ob c',(Instr.mapUpdate t (.map (some b)) (Ek k) u).run P w = .ok () { w with heap:=w.heap.setIfInBounds b (jd Ek ob c') }∧(∀ j,getM ob j=if j=k then some u else getM es j)∧ob.length=es.length+(if (getM es k).isSome then 0 else 1):=by
   rcases hc with ⟨h1,h2⟩|⟨j,v,h1,h2,⟨e',sH,hk⟩,h4⟩
   · refine⟨es++[⟨k,u,c⟩],c+1,?_,fun j=>xm h2 u c j,by rw[getM_none h2];simp⟩
     unfold Instr.mapUpdate
     simp only[Sem.run_bind,cS,Result.andThen_ok,ho,jd,RY]
     rw[hr,h1]
     simp only[Result.andThen_ok]
     rw[iO (P:=P) (Ek:=Ek) (es:=es) (c:=c) (st.has _ _ (List.mem_cons_self))]
     simp[jd,Mx.enc]
   · refine⟨wG u es k,c,?_,fun j=>AA ⟨e',List.mem_of_getElem? sH,hk⟩ u j,by rw[h2,uy];simp⟩
     have hj:((es.map (Mx.enc Ek)).toArray[j]?).map (·.key)=some (Ek k):=by
       simp[sH,Mx.enc,hk]
     have RZ:(((es.map (Mx.enc Ek)).toArray[j]?).map (·.key)).getD (Ek k)=Ek k:=by rw[hj];rfl
     unfold Instr.mapUpdate
     simp only[Sem.run_bind,cS,Result.andThen_ok,ho,jd,RY]
     rw[hr,h1]
     simp only[Result.andThen_ok,Nat.zero_add,Sem.run_bind]
     rw[RZ]
     simp only[Instr.keyThatStays,ke.bits,if_true,Sem.run_pure,Result.andThen_ok]
     rw[h4 u,iO (P:=P) (Ek:=Ek) (es:=es) (c:=c) (st.has _ _ (List.mem_cons_self))]
 obtain⟨ob,c',ic,hg,hlen⟩:=key
 have wF:(execOp a.eval ⟨none,.mapUpdate t x y z,ty,pos,af,none⟩).run P w = .ok .skip { w with heap:=w.heap.setIfInBounds b (jd Ek ob c') }:=by
   simp[execOp,e1,e2,e3,ic]
 exact tf wF ((h ob c' hg hlen).out ro _ _ iF.tail ⟨ok.fr,St.put st rfl rfl rfl rfl⟩)
theorem KE.int {k:IntKind} [tu:TU P kt (.int k)] [TG P kt true]:KE P kt (fun a:Int=>.int k a) where
 eq:=fun w a b=>by
   have h:∀ w,(Op.equalIn (9999+1) kt (.int k a) (.int k b)).run P w = .ok (a==b) w:=fun w=>tT w 9999
   rw[show decide (a=b)=(a==b) from by by_cases e:a=b <;> simp[e]]
   exact h w
 check:=fun w b k'=>by
   show (Instr.checkKey b (9999+1) kt _).run P w = .ok () w
   unfold Instr.checkKey
   rw[Sem.run_bind,cS,Result.andThen_ok]
   simp
 bits:=fun k'=>by simp[Instr.sameBits]
 und:=⟨_,tu.out,.inr fun a b=>by simp[Instr.sameNow];by_cases e:a=b <;> simp[e]⟩
end
end Go.HL
namespace Go.HL
open Go
def VI (agg:Bool)(xs:List Int):Value:=if agg then .agg (cI .i64 xs).toArray else .int .i64 (xs.headD 0)
class QK (P:Program)(t:TypeId)(agg:outParam Bool)(d s:outParam Nat):Prop where
 eq:∀ (w:World)(n:Nat)(xs ys:List Int),d≤n→xs.length=s→ys.length=s→(Op.equalIn n t (VI agg xs) (VI agg ys)).run P w = .ok (decide (xs=ys)) w
 Pm:∀ (w:World)(n:Nat)(b:Bool)(xs:List Int),d≤n→xs.length=s→(Instr.checkKey b n t (VI agg xs)).run P w = .ok () w
 Fu:∀ (w:World)(cs:List Int)(o:Nat),o+s≤cs.length→(part t (cI .i64 cs).toArray o).run P w = .ok (VI agg ((cs.drop o).take s)) w
section
variable {P:Program}{t e:TypeId}
instance QK.int [TU P t (.int .i64)] [TG P t true]:QK P t false 1 1 where
 eq:=fun w n xs ys hn hx hy=>by
   obtain⟨m,rfl⟩:∃ m,n=m+1:=⟨n-1,by omega⟩
   match xs,ys,hx,hy with
   | [a],[b],_,_=>
     show (Op.equalIn (m+1) t (.int .i64 a) (.int .i64 b)).run P w=_
     rw[tT w m]
     congr 1
     by_cases h:a=b <;> simp[h]
 Pm:=fun w n b xs hn hx=>by
   obtain⟨m,rfl⟩:∃ m,n=m+1:=⟨n-1,by omega⟩
   exact LY w
 Fu:=fun w cs o ho=>by
   have cH:o<cs.length:=by omega
   have h:(cI .i64 cs).toArray[o]?=some (.int .i64 cs[o]):=by simp[cI,cH]
   rw[lE h]
   have h2:(cs.drop o).take 1 = [cs[o]]:=by rw[List.drop_eq_getElem_cons cH];rfl
   rw[h2];rfl
theorem Mv {s b:Nat} [TG P t false] [TI P t s b](w:World)(cs:List Int)(o:Nat)(_ho:o+s≤cs.length):(part t (cI .i64 cs).toArray o).run P w = .ok (VI true ((cs.drop o).take s)) w:=by
 refine (pf (ys:=(cI .i64 ((cs.drop o).take s)).toArray) ?_).trans rfl
 apply Array.ext'
 rw[Array.toList_extract]
 simp[cI,List.map_take,List.map_drop,List.extract_eq_take_drop]
inductive QF (P:Program)(d:Nat):List (Nat×Nat)→Nat→Nat→Prop
 | nil {s:Nat}:QF P d [] s s
 | cons {e o s de se:Nat}{l:List (Nat×Nat)}{agg:Bool}(q:QK P e agg de se)(hd:de≤d)(h:QF P d l (o+se) s):QF P d ((e,o)::l) o s
theorem QK.arr {m e d se b b':Nat}{agg:Bool} [TU P t (.array m e)] [TG P t false] [TI P t (m*se) b] [TI P e se b'](q:QK P e agg d se):QK P t true (d+1) (m*se) where
 eq:=fun w n xs ys hn hx hy=>by
   obtain⟨n,rfl⟩:∃ k,n=k+1:=⟨n-1,by omega⟩
   have hmul:∀ i,i<m→i*se+se≤m*se:=fun i hi=>by rw[← Nat.succ_mul];exact Nat.mul_le_mul_right _ hi
   show (Op.equalIn (n+1) t (.agg (cI .i64 xs).toArray) (.agg (cI .i64 ys).toArray)).run P w=_
   unfold Op.equalIn
   simp only[Sem.run_bind,cS,Result.andThen_ok,bV]
   rw[Std.Legacy.Range.forIn_eq_forIn_range']
   have:=rO (P:=P) (f:=fun i _=>do
           let a ← part e (cI .i64 xs).toArray (i*se)
           let b ← part e (cI .i64 ys).toArray (i*se)
           let c ← Op.equalIn n e a b
           if (!c)=true then pure (ForInStep.done (some false,())) else pure (ForInStep.yield (none,()))) (fun i=>decide ((xs.drop (i*se)).take se=(ys.drop (i*se)).take se)) w (List.range' 0 m) (by
     intro i hi
     have EM:i<m:=by simpa using hi
     have h3:=hmul i EM
     rw[Sem.run_bind,q.Fu w xs (i*se) (by omega),Result.andThen_ok,Sem.run_bind,q.Fu w ys (i*se) (by omega),Result.andThen_ok,Sem.run_bind,q.eq w n _ _ (by omega) (by rw[List.length_take,List.length_drop];omega) (by rw[List.length_take,List.length_drop];omega),Result.andThen_ok]
     by_cases hq:(xs.drop (i*se)).take se=(ys.drop (i*se)).take se <;> simp[hq])
   have xJ:([:m]:Std.Legacy.Range).size=m:=by simp[Std.Legacy.Range.size]
   simp only[xJ]
   simp only[this,Result.andThen_ok]
   have jE:(List.range' 0 m).all (fun i=>decide ((xs.drop (i*se)).take se=(ys.drop (i*se)).take se))=decide (xs=ys):=by
     rw[Bool.eq_iff_iff,List.all_eq_true,decide_eq_true_eq]
     constructor
     · intro h
       have key:∀ k,k≤m→xs.take (k*se)=ys.take (k*se):=by
         intro k
         induction k with
         | zero=>intro _;simp
         | succ k ih=>
           intro hk
           have h1:=h k (by simp;omega)
           rw[decide_eq_true_eq] at h1
           rw[Nat.succ_mul,List.take_add,List.take_add,ih (by omega),h1]
       have h2:=key m (Nat.le_refl _)
       rwa [List.take_of_length_le (by omega),List.take_of_length_le (by omega)] at h2
     · intro h i _;simp[h]
   rw[jE]
   by_cases h:xs=ys <;> simp[h]
 Pm:=fun w n b xs hn hx=>by
   obtain⟨n,rfl⟩:∃ k,n=k+1:=⟨n-1,by omega⟩
   have hmul:∀ i,i<m→i*se+se≤m*se:=fun i hi=>by rw[← Nat.succ_mul];exact Nat.mul_le_mul_right _ hi
   show (Instr.checkKey b (n+1) t (.agg (cI .i64 xs).toArray)).run P w = .ok () w
   unfold Instr.checkKey
   rw[Sem.run_bind,cS,Result.andThen_ok]
   simp only[]
   rw[Sem.run_bind,Std.Legacy.Range.forIn_eq_forIn_range']
   refine (congrArg (fun r=>Result.andThen r _) (BC fun i hi=>?_)).trans (by simp)
   have xJ:([:m]:Std.Legacy.Range).size=m:=by simp[Std.Legacy.Range.size]
   have EM:i<m:=by rw[xJ] at hi;simpa using hi
   have h3:=hmul i EM
   simp only[Sem.run_bind,bV,Result.andThen_ok,q.Fu w xs (i*se) (by omega)]
   rw[q.Pm w n b _ (by omega) (by rw[List.length_take,List.length_drop];omega),Result.andThen_ok,Sem.run_pure]
 Fu:=fun w cs o ho=>Mv w cs o ho
end
end Go.HL
namespace Go.HL
open Go
def VI8 (agg:Bool)(xs:List Int):Value:=if agg then .agg (cI .u8 xs).toArray else .int .u8 (xs.headD 0)
class Nb (P:Program)(t:TypeId)(agg:outParam Bool)(d s:outParam Nat):Prop where
 eq:∀ (w:World)(n:Nat)(xs ys:List Int),d≤n→xs.length=s→ys.length=s→(Op.equalIn n t (VI8 agg xs) (VI8 agg ys)).run P w = .ok (decide (xs=ys)) w
 Pm:∀ (w:World)(n:Nat)(b:Bool)(xs:List Int),d≤n→xs.length=s→(Instr.checkKey b n t (VI8 agg xs)).run P w = .ok () w
 Fu:∀ (w:World)(cs:List Int)(o:Nat),o+s≤cs.length→(part t (cI .u8 cs).toArray o).run P w = .ok (VI8 agg ((cs.drop o).take s)) w
section
variable {P:Program}{t e:TypeId}
instance Nb.int [TU P t (.int .u8)] [TG P t true]:Nb P t false 1 1 where
 eq:=fun w n xs ys hn hx hy=>by
   obtain⟨m,rfl⟩:∃ m,n=m+1:=⟨n-1,by omega⟩
   match xs,ys,hx,hy with
   | [a],[b],_,_=>
     show (Op.equalIn (m+1) t (.int .u8 a) (.int .u8 b)).run P w=_
     rw[tT w m]
     congr 1
     by_cases h:a=b <;> simp[h]
 Pm:=fun w n b xs hn hx=>by
   obtain⟨m,rfl⟩:∃ m,n=m+1:=⟨n-1,by omega⟩
   show (Instr.checkKey b (m+1) t _).run P w = .ok () w
   unfold Instr.checkKey
   rw[Sem.run_bind,cS,Result.andThen_ok]
   simp
 Fu:=fun w cs o ho=>by
   have cH:o<cs.length:=by omega
   have h:(cI .u8 cs).toArray[o]?=some (.int .u8 cs[o]):=by simp[cI,cH]
   rw[lE h]
   have h2:(cs.drop o).take 1 = [cs[o]]:=by rw[List.drop_eq_getElem_cons cH];rfl
   rw[h2];rfl
theorem HI {s b:Nat} [TG P t false] [TI P t s b](w:World)(cs:List Int)(o:Nat)(_ho:o+s≤cs.length):(part t (cI .u8 cs).toArray o).run P w = .ok (VI8 true ((cs.drop o).take s)) w:=by
 refine (pf (ys:=(cI .u8 ((cs.drop o).take s)).toArray) ?_).trans rfl
 apply Array.ext'
 rw[Array.toList_extract]
 simp[cI,List.map_take,List.map_drop,List.extract_eq_take_drop]
inductive QF8 (P:Program)(d:Nat):List (Nat×Nat)→Nat→Nat→Prop
 | nil {s:Nat}:QF8 P d [] s s
 | cons {e o s de se:Nat}{l:List (Nat×Nat)}{agg:Bool}(q:Nb P e agg de se)(hd:de≤d)(h:QF8 P d l (o+se) s):QF8 P d ((e,o)::l) o s
theorem Nb.arr {m e d se b b':Nat}{agg:Bool} [TU P t (.array m e)] [TG P t false] [TI P t (m*se) b] [TI P e se b'](q:Nb P e agg d se):Nb P t true (d+1) (m*se) where
 eq:=fun w n xs ys hn hx hy=>by
   obtain⟨n,rfl⟩:∃ k,n=k+1:=⟨n-1,by omega⟩
   have hmul:∀ i,i<m→i*se+se≤m*se:=fun i hi=>by rw[← Nat.succ_mul];exact Nat.mul_le_mul_right _ hi
   show (Op.equalIn (n+1) t (.agg (cI .u8 xs).toArray) (.agg (cI .u8 ys).toArray)).run P w=_
   unfold Op.equalIn
   simp only[Sem.run_bind,cS,Result.andThen_ok,bV]
   rw[Std.Legacy.Range.forIn_eq_forIn_range']
   have:=rO (P:=P) (f:=fun i _=>do
           let a ← part e (cI .u8 xs).toArray (i*se)
           let b ← part e (cI .u8 ys).toArray (i*se)
           let c ← Op.equalIn n e a b
           if (!c)=true then pure (ForInStep.done (some false,())) else pure (ForInStep.yield (none,()))) (fun i=>decide ((xs.drop (i*se)).take se=(ys.drop (i*se)).take se)) w (List.range' 0 m) (by
     intro i hi
     have EM:i<m:=by simpa using hi
     have h3:=hmul i EM
     rw[Sem.run_bind,q.Fu w xs (i*se) (by omega),Result.andThen_ok,Sem.run_bind,q.Fu w ys (i*se) (by omega),Result.andThen_ok,Sem.run_bind,q.eq w n _ _ (by omega) (by rw[List.length_take,List.length_drop];omega) (by rw[List.length_take,List.length_drop];omega),Result.andThen_ok]
     by_cases hq:(xs.drop (i*se)).take se=(ys.drop (i*se)).take se <;> simp[hq])
   have xJ:([:m]:Std.Legacy.Range).size=m:=by simp[Std.Legacy.Range.size]
   simp only[xJ]
   simp only[this,Result.andThen_ok]
   have jE:(List.range' 0 m).all (fun i=>decide ((xs.drop (i*se)).take se=(ys.drop (i*se)).take se))=decide (xs=ys):=by
     rw[Bool.eq_iff_iff,List.all_eq_true,decide_eq_true_eq]
     constructor
     · intro h
       have key:∀ k,k≤m→xs.take (k*se)=ys.take (k*se):=by
         intro k
         induction k with
         | zero=>intro _;simp
         | succ k ih=>
           intro hk
           have h1:=h k (by simp;omega)
           rw[decide_eq_true_eq] at h1
           rw[Nat.succ_mul,List.take_add,List.take_add,ih (by omega),h1]
       have h2:=key m (Nat.le_refl _)
       rwa [List.take_of_length_le (by omega),List.take_of_length_le (by omega)] at h2
     · intro h i _;simp[h]
   rw[jE]
   by_cases h:xs=ys <;> simp[h]
 Pm:=fun w n b xs hn hx=>by
   obtain⟨n,rfl⟩:∃ k,n=k+1:=⟨n-1,by omega⟩
   have hmul:∀ i,i<m→i*se+se≤m*se:=fun i hi=>by rw[← Nat.succ_mul];exact Nat.mul_le_mul_right _ hi
   show (Instr.checkKey b (n+1) t (.agg (cI .u8 xs).toArray)).run P w = .ok () w
   unfold Instr.checkKey
   rw[Sem.run_bind,cS,Result.andThen_ok]
   simp only[]
   rw[Sem.run_bind,Std.Legacy.Range.forIn_eq_forIn_range']
   refine (congrArg (fun r=>Result.andThen r _) (BC fun i hi=>?_)).trans (by simp)
   have xJ:([:m]:Std.Legacy.Range).size=m:=by simp[Std.Legacy.Range.size]
   have EM:i<m:=by rw[xJ] at hi;simpa using hi
   have h3:=hmul i EM
   simp only[Sem.run_bind,bV,Result.andThen_ok,q.Fu w xs (i*se) (by omega)]
   rw[q.Pm w n b _ (by omega) (by rw[List.length_take,List.length_drop];omega),Result.andThen_ok,Sem.run_pure]
 Fu:=fun w cs o ho=>HI w cs o ho
theorem KE.of8 {κ:Type} [DecidableEq κ]{Ei:κ→List Int}{s d:Nat} [q:Nb P t true d s](hs:∀ k,(Ei k).length=s)(hi:∀ a b,Ei a=Ei b→a=b)(hd:d≤10000)(dV:∃ m e,P.underlying t=some (.array m e)):KE P t (fun k:κ=>.agg (cI .u8 (Ei k)).toArray) where
 eq:=fun w a b=>by
   have h:=q.eq w 10000 (Ei a) (Ei b) hd (hs a) (hs b)
   have e:decide (Ei a=Ei b)=decide (a=b):=by
     rw[Bool.eq_iff_iff,decide_eq_true_eq,decide_eq_true_eq]
     exact⟨hi a b,fun h=>by rw[h]⟩
   rw[e] at h
   exact h
 check:=fun w b k=>q.Pm w 10000 b (Ei k) hd (hs k)
 bits:=fun k=>by
   show Instr.sameBits (9999+1) _ _=true
   simp only[Instr.sameBits,beq_self_eq_true,Bool.true_and,List.all_eq_true]
   intro p hp
   have h1:∀ (l:List Int)(p:Value×Value),p∈(cI .u8 l).zip (cI .u8 l)→∃ a,p=(.int .u8 a,.int .u8 a):=by
     intro l
     induction l with
     | nil=>intro p hp;simp[cI] at hp
     | cons a l ih=>
       intro p hp
       have e:cI .u8 (a::l) = .int .u8 a::cI .u8 l:=rfl
       rw[e,List.zip_cons_cons] at hp
       rcases List.mem_cons.1 hp with rfl|hp
       · exact⟨a,rfl⟩
       · exact ih p hp
   obtain⟨a,rfl⟩:=h1 _ p hp
   simp[Instr.sameBits]
 und:=by
   obtain⟨m,e,hu⟩:=dV
   exact⟨_,hu,.inl fun a b=>rfl⟩
theorem KE.ofA {κ:Type} [DecidableEq κ]{Ei:κ→List Int}{s d:Nat} [q:QK P t true d s](hs:∀ k,(Ei k).length=s)(hi:∀ a b,Ei a=Ei b→a=b)(hd:d≤10000)(dV:∃ m e,P.underlying t=some (.array m e)):KE P t (fun k:κ=>.agg (cI .i64 (Ei k)).toArray) where
 eq:=fun w a b=>by
   have h:=q.eq w 10000 (Ei a) (Ei b) hd (hs a) (hs b)
   have e:decide (Ei a=Ei b)=decide (a=b):=by
     rw[Bool.eq_iff_iff,decide_eq_true_eq,decide_eq_true_eq]
     exact⟨hi a b,fun h=>by rw[h]⟩
   rw[e] at h
   exact h
 check:=fun w b k=>q.Pm w 10000 b (Ei k) hd (hs k)
 bits:=fun k=>by
   show Instr.sameBits (9999+1) _ _=true
   simp only[Instr.sameBits,beq_self_eq_true,Bool.true_and,List.all_eq_true]
   intro p hp
   have h1:∀ (l:List Int)(p:Value×Value),p∈(cI .i64 l).zip (cI .i64 l)→∃ a,p=(.int .i64 a,.int .i64 a):=by
     intro l
     induction l with
     | nil=>intro p hp;simp[cI] at hp
     | cons a l ih=>
       intro p hp
       have e:cI .i64 (a::l) = .int .i64 a::cI .i64 l:=rfl
       rw[e,List.zip_cons_cons] at hp
       rcases List.mem_cons.1 hp with rfl|hp
       · exact⟨a,rfl⟩
       · exact ih p hp
   obtain⟨a,rfl⟩:=h1 _ p hp
   simp[Instr.sameBits]
 und:=by
   obtain⟨m,e,hu⟩:=dV
   exact⟨_,hu,.inl fun a b=>rfl⟩
end
end Go.HL
namespace Go.HL.cm
open Go Go.HL Go.HL.Kl Go.HL.Kl.Mc
section
variable {α:Type}
def jR (z:α)(l:List α)(n:Nat):List α:=l++List.replicate (n-l.length) z
theorem eQ {z:α}{l:List α}{n:Nat}(h:l.length≤n):(jR z l n).length=n:=by simp[jR];omega
theorem pe (z:α)(n:Nat):jR z [] n=List.replicate n z:=by simp[jR]
theorem iE {z v:α}{l:List α}{n k:Nat}(hk:l.length=k)(h:k<n):(jR z l n).set k v=jR z (l++[v]) n:=by
 subst hk
 unfold jR
 rw[List.set_append_right _ _ (Nat.le_refl _),Nat.sub_self,show n-l.length=(n-(l++[v]).length)+1 by simp;omega,List.replicate_succ,List.set_cons_zero]
 simp
theorem nk {z:α}{l:List α}{n:Nat}(h:l.length=n):jR z l n=l:=by simp[jR,h]
theorem Kc {z v:α}{l:List α}{n k:Nat}(hk:l.length=k)(h:k<n):((jR z l n).set k v)[k]?=some v:=by
 rw[List.getElem?_set_self (by rw[eQ (by omega)];exact h)]
theorem wX {z:α}{l:List α}{n k:Nat}(hk:l.length=k)(h:k<n):(jR z l n).set k z=jR z l n:=by
 subst hk
 unfold jR
 rw[List.set_append_right _ _ (Nat.le_refl _),Nat.sub_self,show n-l.length=(n-l.length-1)+1 by omega,List.replicate_succ,List.set_cons_zero]
theorem aY {l:List α}{k:Nat}{a:α}(h:l[k]?=some a):l.take (k+1)=l.take k++[a]:=by
 rw[List.take_add_one,h];rfl
theorem qd {l:List α}{k:Nat}(h:k≤l.length):(l.take k).length=k:=by simp;omega
end
theorem xC {rds:List Sp}{k:Nat}{r:Sp}(h:rds[k]?=some r)(fr:Sp)(met:List Sp):dY (rds.take (k+1)) fr met=((dY (rds.take k) fr met).1++[(dY (rds.take k) fr met).2.idxOf (fr &&& r)+1],dD (dY (rds.take k) fr met).2 (fr &&& r)):=by
 rw[aY h,xY]
theorem Kk {rds:List Sp}{k:Nat}(h:k≤rds.length)(fr:Sp)(met:List Sp):(dY (rds.take k) fr met).1.length=k:=by
 rw[lh,qd h]
theorem num_add {met:List Sp}{s:Sp}(hs:s∉met){g g':Sp→Option Value}(h:∀ j,g j=if j∈met then some (.int .i64 ((met.idxOf j+1:Nat):Int)) else none)
   (h':∀ j,g' j=if j=s then some (.int .i64 ((met.length+1:Nat):Int)) else g j):∀ j,g' j=if j∈dD met s then some (.int .i64 (((dD met s).idxOf j+1:Nat):Int)) else none:=by
 intro j
 have e:dD met s=met++[s]:=by simp[dD,hs]
 rw[h',e]
 by_cases hj:j=s
 · subst hj
   rw[if_pos rfl,if_pos (by simp),List.idxOf_append,if_neg hs]
   simp
 · rw[if_neg hj,h]
   by_cases hm:j∈met
   · rw[if_pos hm,if_pos (by simp[hm]),List.idxOf_append,if_pos hm]
   · rw[if_neg hm,if_neg (by simp[hm,hj])]
theorem jm (fr:Sp):∀ (rds met:List Sp),met.length≤(dY rds fr met).2.length
 | [],met=>Nat.le_refl _
 | r::rds,met=>by
   have h1:=jm fr rds (dD met (fr &&& r))
   obtain⟨t,ht⟩:=yM met (fr &&& r)
   have h2:met.length≤(dD met (fr &&& r)).length:=by rw[ht];simp
   exact Nat.le_trans h2 h1
theorem Oq {met:List Sp}{s:Sp}(hs:s∈met):dD met s=met:=by simp[dD,hs]
theorem Kd {sets:List Kl.Cl}{a c:Kl.Cl}{p:Nat}(h:sets[p]?=some c)(hc:c &&& a≠0#256):nK sets a (p+1)=nK sets a p ||| xd p:=by
 show (if (sets[p]?.getD 0) &&& a=0 then _ else _)=_
 rw[h]
 simp only[Option.getD_some]
 rw[if_neg (show ¬ c &&& a=0 from hc)]
theorem On {sets:List Kl.Cl}{a c:Kl.Cl}{p:Nat}(h:sets[p]?=some c)(hc:¬ c &&& a≠0#256):nK sets a (p+1)=nK sets a p:=by
 have hc:=Classical.not_not.1 hc
 show (if (sets[p]?.getD 0) &&& a=0 then _ else _)=_
 rw[h]
 simp only[Option.getD_some]
 rw[if_pos (show c &&& a=0 from hc)]
theorem rk {sets atoms:List Kl.Cl}{k:Nat}{a:Kl.Cl}(h:atoms[k]?=some a):(fI sets atoms)[k]?=some (nK sets a sets.length):=by simp[fI,h]
theorem xB (sets atoms:List Kl.Cl):(fI sets atoms).length=atoms.length:=by simp[fI]
theorem G2 {fol:List Sp}{s f:Sp}{p:Nat}(h:fol[p]?=some f)(hs:s.getLsbD p=true):eF fol s (p+1)=eF fol s p ||| f:=by simp[eF,hs,h]
theorem Kg {fol:List Sp}{s:Sp}{p:Nat}(hs:s.getLsbD p=false):eF fol s (p+1)=eF fol s p:=by simp[eF,hs]
end Go.HL.cm
namespace Go.Proofs.YtmompllplidphaaGreatDoor
open Go Go.HL Go.Proofs Go.HL.Kl Go.HL.Kl.Mc Go.HL.cm
def Na (s:Sp):Value:=.agg (E3 s).toArray
instance k84:Nb Tryz.prog 90 true 2 3:=Nb.arr (m:=3) (e:=5) (se:=1) (Nb.int (t:=5))
instance keS:KE Tryz.prog 90 Na:=KE.of8 (Ei:=Is) (fun _=>rfl) (fun a b h=>Tk.1 h) (by decide) ⟨_,_,Tryz.underlying90⟩
def Tj (rT rz:Nat)(met:List Sp)(S:Hp):Prop:=∃ (bm:Nat)(es:List (Mx Sp))(c:Nat)(ma:Option Addr)(mc:Nat)(Sm:Hp),S=(rT,.cells [.map (some bm)].toArray 159 (0,0))::(bm,jd Na es c)::(rz,.cells [.slice ma (met).length mc].toArray 84 (0,0))::Sm∧aG E3 3 90 (.slice ma met.length mc) met Sm∧met.Nodup∧∀ s,getM es s=if s∈met then some (.int .i64 ((met.idxOf s+1:Nat):Int)) else none
def WdS (kb:Nat)(next:List (List Nat))(ends:List Bool)(S:Hp):Prop:=∃ (na:Option Addr)(nc:Nat)(rows:List (Sl Nat))(ea:Option Addr)(ec:Nat)(Sn Se Sr:Hp),S=(kb,.cells [.slice na rows.length nc,.slice ea ends.length ec].toArray 96 (0,0))::(Sn++(Se++Sr))∧aG cX 1 36 (.slice na rows.length nc) rows Sn∧aG fR 1 4 (.slice ea ends.length ec) ends Se∧cG jo 1 3 rows next Sr∧next=rows.map Sl.xs
theorem Ki (rT rz:Nat)(met:List Sp)(S:Hp)(h:Tj rT rz met S)(s:Sp):HL.Fn Tryz.prog 106 [.agg (E3 (s)).toArray,.pointer (some ⟨rT,0,none⟩),.pointer (some ⟨rz,0,none⟩)] (fun _=>True) S (fun v S'=>v = .int .i64 ((met.idxOf s+1:Nat):Int)∧Tj rT rz (dD met s) S'):=by
 refine aW Tryz.func106 rfl rfl rfl fun w0 hw=>?_
 obtain⟨bm,es,c,ma,mc,Sm,rfl,hO,yg,hg⟩:=h
 have ot:=kO yg
 refine cR fun _ bI=>?_;refine cB rfl rfl rfl fun b3=>?_;refine oA (oZ bI (cR fun _ bJ=>?_));refine oS sL ?_;refine oS (aD rfl (aI.aO (.own aV)) aS) ?_
 by_cases hm:s∈met
 ·refine oS (ab (v':=.tuple #[.int .i64 ((met.idxOf s+1:Nat):Int),.bool true]) (kI (Ek:=Na) (k:=s) rfl rfl aV) (by rw[hg,if_pos hm];rfl)) ?_;refine oM ?_;refine oS sE ?_;refine oS sE (oA (oA (oZ bJ (ah fun _ bK=>?_))));refine cR fun _ bU=>?_;refine oM ?_;refine oS (aT rfl) ?_;refine oZ bU ?_;refine eL bK (cR fun _ bT=>?_);refine oM (oA (oZ bT (aA ?_)));refine ?_;refine cM (Sub.refl _) (H':=(rT,.cells [.map (some bm)].toArray 159 (0,0))::(bm,jd Na es c)::(rz,.cells [.slice ma (met).length mc].toArray 84 (0,0))::Sm) aP ?_
  exact xR rfl rfl (⟨rfl,by rw[Oq hm];exact⟨bm,es,c,ma,mc,Sm,rfl,hO,yg,hg⟩⟩)
 ·refine oS (ab (v':=.tuple #[.int .i64 0,.bool false]) (kI (Ek:=Na) (k:=s) rfl rfl aV) (by rw[hg,if_neg hm];rfl)) ?_;refine oM ?_;refine oS sE ?_;refine oS sE (oA (oA (oZ bJ (ah fun _ bZ=>?_))));refine cR fun _ cj=>?_;refine oM ?_;refine oS (aT rfl) ?_;refine oZ cj ?_;refine cT (cR fun _ ck=>?_);refine oS sL ?_;refine oS sC ?_;refine oS (ab (v':=.int .i64 ((met.length+1:Nat):Int)) (kW rfl rfl (by omega)) rfl) ?_;refine oA (oZ ck (cR fun _ cQ=>?_));refine oS sL ?_;refine oS (aD rfl (aI.aO (.own aV)) aS) ?_;refine oM ?_;refine sY (Ek:=Na) (k:=s) rfl rfl rfl bh fun ob c' tQ kH=>?_;refine oZ cQ (ae ?_);refine oS sL ?_;refine oS (aD rfl (aI.aO (.own aV)) aS) ?_;refine ct (E:=E3) (xs:=[s]) (vs:=[_]) rfl rfl rfl rfl rfl (by decide) (by decide) fun b23 S23 ad8=>?_;refine bX hO (ad8.aU aM) rfl rfl rfl rfl (by simp only[List.length_append,List.length_singleton];omega) (by simp only[List.length_append,List.length_singleton];omega) rfl bh fun a24 c24 XZ ad9=>?_;refine bg rfl rfl rfl bY kD rfl ?_;refine oZ bZ (ah fun _ bw=>?_)
  refine ae ?_;refine cP rfl (ba rfl) ?_;refine cP rfl (dF rfl) ?_;refine ak ?_;refine av (bw _ _ ?_);refine aA ?_;refine ?_;refine cM (Sub.refl _) (H':=(rT,.cells [.map (some bm)].toArray 159 (0,0))::(bm,jd Na ob c')::(rz,.cells [.slice a24 (met++[s]).length c24].toArray 84 (0,0))::XZ) aP ?_;exact cr rfl (.tmp rfl (.nil)) (⟨by rw[List.idxOf_eq_length hm];rfl,bm,ob,c',a24,c24,XZ,by simp only[dD,if_neg hm],by simpa only[dD,if_neg hm] using ad9,kK yg s,num_add hm hg tQ⟩)
set_option maxHeartbeats 1000000 in
theorem Ke (b5 b7 kb Kj og v3:Nat)(aa:Option Addr)(an ac:Nat)(da:Option Addr)(dn dc:Nat)(rds:List Sp)(Sr:Hp)(hr:aG E3 3 90 (.slice da dn dc) rds Sr)(X0:dn=rds.length)(han:an=rds.length)(V0:rds.length≤300)(met:List Sp)(SS:Hp)(hS:Tj Kj og met SS)(next:List (List Nat))(ends:List Bool)(SW:Hp)(hW:WdS kb next ends SW)(wY:next.length≤16777220)(kH:ends.length≤16777220)(fr:Sp)(e:Bool):HL.Fn Tryz.prog 107 [.agg (E3 (fr)).toArray,.bool e,.pointer (some ⟨b5,0,none⟩),.pointer (some ⟨b7,0,none⟩),.pointer (some ⟨v3,0,none⟩),.pointer (some ⟨kb,0,none⟩)] (fun _=>True) ((b5,.cells [.slice aa an ac].toArray 26 (0,0))::(b7,.cells [.slice da dn dc].toArray 84 (0,0))::(v3,.cells [.func (.func 106) [].toArray [.pointer (some ⟨Kj,0,none⟩),.pointer (some ⟨og,0,none⟩)].toArray].toArray 160 (0,0))::(Sr++(SW++SS))) (fun _ S'=>∃ SS' SW',S'=((b5,.cells [.slice aa an ac].toArray 26 (0,0))::(b7,.cells [.slice da dn dc].toArray 84 (0,0))::(v3,.cells [.func (.func 106) [].toArray [.pointer (some ⟨Kj,0,none⟩),.pointer (some ⟨og,0,none⟩)].toArray].toArray 160 (0,0))::(Sr++(SW'++SS')))∧Tj Kj og (dY rds fr met).2 SS'∧WdS kb (next++[(dY rds fr met).1]) (ends++[e]) SW'):=by
 refine aW Tryz.func107 rfl rfl rfl fun w0 hw=>?_;subst han
 subst X0
 have hdr:=hr.sl
 refine cR fun _ bI=>?_;refine cB rfl rfl rfl fun b6=>?_;refine oZ bI (cR fun _ bJ=>?_);refine oS sL ?_;refine oS sC ?_;refine lD (E:=jo) (zx:=0) (n:=rds.length) rfl rfl rfl (by omega) (by omega) rfl fun rz oT Db=>?_
 rw[← pe] at Db
 have X1:=Db.sl
 rw[eQ (Nat.zero_le _)] at X1
 refine oA (oZ bJ (ah fun _ bK=>?_));refine cR fun _ bU=>?_;refine oS sL ?_;refine oS sC (oM (oZ bU (ai ?_)));refine dt (fun (k:Nat)(jP:Hp)(St:Hp)=>k≤rds.length∧Tj Kj og (dY (rds.take k) fr met).2 St∧aG jo 1 3 (.slice (some ⟨rz,0,none⟩) rds.length rds.length) (jR 0 (dY (rds.take k) fr met).1 rds.length) jP) (fun (k:Nat)(jP:Hp)(St:Hp)=>[(17,.int .i64 k)]) [(1,_),(3,_),(4,_),(5,_),(6,_),(8,_),(16,_)] (fun (k:Nat)(jP:Hp)(St:Hp)=>(b6,.cells (E3 fr).toArray 90 (0,0))::(b5,.cells [.slice aa rds.length ac].toArray 26 (0,0))::(b7,.cells [.slice da rds.length dc].toArray 84 (0,0))::(v3,.cells [.func (.func 106) [].toArray [.pointer (some ⟨Kj,0,none⟩),.pointer (some ⟨og,0,none⟩)].toArray].toArray 160 (0,0))::(jP++(Sr++(SW++St)))) (fun (k:Nat)(jP:Hp)(St:Hp)=>rds.length-k) 0 oT SS ⟨Nat.zero_le _,by simpa [dY] using hS,by simpa [dY] using Db⟩ aH aH aP ?_
 rintro k jP St ⟨hk,V2,hL⟩
 refine cR fun _ bT=>?_;refine oS (aF rfl rfl) ?_;refine oZ bT (ah fun _ bZ=>?_);refine cx rfl (fun cH=>?_) (fun cH=>?_)
 ·obtain⟨r,hrk⟩:∃ r,rds[k]?=some r:=gE
  have p5:=Kk (Nat.le_of_lt (show k<rds.length by omega)) fr met
  refine ax (xZ bZ (ah fun _ cj=>?_));refine ai (cR fun _ ck=>?_);refine oM (oA (oZ ck (cR fun _ cQ=>?_)));refine oS (aD rfl (aI.aO (.own aV)) aS) ?_;refine aB (l:=E3 0) (by rfl) rfl fun gT=>?_;refine bf rfl rfl bY aS aS fE ?_;refine oZ cQ (ah fun _ bw=>?_);refine cR fun _ bF=>?_;refine oM (oZ bF (ai ?_));refine aL (fun (i:Nat)=>i≤3) (fun (i:Nat)=>[(21,.int .i64 i)]) [(1,_),(3,_),(4,_),(5,_),(6,_),(8,_),(9,_),(10,_),(16,_),(17,_),(18,_),(19,_),(20,_)] (fun (i:Nat)=>(gT,.cells (E3 (wL (fun i w=>w &&& wp r i) fr i)).toArray 90 (0,0))::(b6,.cells (E3 fr).toArray 90 (0,0))::(b5,.cells [.slice aa rds.length ac].toArray 26 (0,0))::(b7,.cells [.slice da rds.length dc].toArray 84 (0,0))::(v3,.cells [.func (.func 106) [].toArray [.pointer (some ⟨Kj,0,none⟩),.pointer (some ⟨og,0,none⟩)].toArray].toArray 160 (0,0))::(jP++(Sr++(SW++St)))) (fun (i:Nat)=>3-i) 0 (by omega) aH aH aP ?_
  rintro i hI
  refine cR fun _ bD=>?_;refine oS (aF rfl rfl) ?_;refine oZ bD (ah fun _ cb=>?_);refine cx rfl (fun X2=>?_) (fun X2=>?_)
  ·refine ax (xZ cb (ah fun _ bL=>?_));refine ai (cR fun _ bQ=>?_);refine oM (oA (oZ bQ ?_));refine aK ((gT,.cells (E3 (wL (fun i w=>w &&& wp r i) fr i)).toArray 90 (0,0))::(b6,.cells (E3 fr).toArray 90 (0,0))::(b5,.cells [.slice aa rds.length ac].toArray 26 (0,0))::(b7,.cells [.slice da rds.length dc].toArray 84 (0,0))::(v3,.cells [.func (.func 106) [].toArray [.pointer (some ⟨Kj,0,none⟩),.pointer (some ⟨og,0,none⟩)].toArray].toArray 160 (0,0))::(jP++(Sr++(SW++St)))) (fun i=>Nat.beq i 11) ?_;refine eP 0 rfl sM ?_;refine eP 1 rfl (dP rfl rfl (by omega)) ?_;refine eK 2 rfl (az rfl ((aI.own aV).iU (j:=i) (m4 _ (by omega)) (by omega))) ?_;refine eK 3 rfl sL ?_;refine eP 4 rfl sM ?_;refine eP 5 rfl sM ?_;refine eP 6 rfl (au rfl rfl hdr (by omega)) ?_;refine eP 7 rfl (aQ rfl rfl (by omega)) ?_;refine eK 8 rfl (az rfl ((hr.aU aM).ld k i hrk (m4 _ (by omega)) (by omega) (by simp only[Int.toNat_natCast];omega))) ?_;refine eP 9 rfl (ab (gW rfl rfl) (Km (wp _ i) (wp r i))) ?_;refine eP 10 rfl (dP rfl rfl (by omega)) ?_;refine eO 11 rfl ?_;refine bg rfl rfl rfl bY (by show i<3;omega) rfl ?_
   rw[Dc _ _ (by omega)]
   refine ak ?_;refine cE rfl ?_;refine cw (by kernel_rfl) ?_;refine aq (xZ bL (ae ?_));refine oS sD (oM (ak ?_));exact xI (i+1) (by omega)
  ·obtain rfl:i=3:=by omega
   rw[Kn fr r]
   refine ay ?_;refine ad (ad (ag (xZ bw (ae (oM (oM ?_))))));refine oS sL ?_;refine oS (aD rfl (aI.aO (.own aV)) aS) ?_;refine ff (us:=[]) (vs:=[_]) (cs:=[.pointer (some ⟨Kj,0,none⟩),.pointer (some ⟨og,0,none⟩)]) (Ki Kj og (dY (rds.take k) fr met).2 St V2 (fr &&& r)) rfl rfl rfl (bh) (fun _ _=>trivial) (fun v40 S40 ⟨Tl,X3⟩=>?_);subst Tl
   refine oS (au rfl rfl X1 (by omega)) ?_;refine dp k ((dY (rds.take k) fr met).2.idxOf (fr &&& r)+1) hL bh rfl rfl rfl (by rw[eQ (by omega)];omega) (by first|rfl|omega|(rw[Int.toNat_natCast,Nat.mul_one])) fun S42 Ot=>?_
   rw[iE p5 (by omega)] at Ot
   refine ak (aq (xZ cj (ae ?_)));refine oS sD (oM (ak ?_));exact xI (k+1,_,_) ⟨by omega,by rw[xC hrk];exact X3,by rw[xC hrk];exact Ot⟩
 ·obtain rfl:k=rds.length:=by omega
  rw[List.take_length] at V2 hL
  rw[nk (by rw[lh])] at hL
  refine ay ?_;refine ad (ad (ag (xZ bK (ah fun _ cO=>?_))))
  obtain⟨na,nc,rows,ea,ec,Sn,Se,Sq,rfl,hn,he,hq,we⟩:=hW
  have Fk:=hq.len
  refine ae ?_;refine oS sF ?_;refine oS sL ?_;refine oS (ab (v':=.slice (some ⟨rz,0,none⟩) (dY rds fr met).1.length rds.length) (ba rfl) (by rw[lh])) ?_;refine ct (E:=cX) (xs:=[(⟨some ⟨rz,0,none⟩,rds.length,(dY rds fr met).1⟩:Sl Nat)]) (vs:=[_]) rfl rfl rfl rfl rfl (by decide) (by decide) fun b46 S46 G4=>?_;refine bX hn (G4.aU aM) rfl rfl rfl rfl (by simp only[List.length_append,List.length_singleton];omega) (by simp only[List.length_append,List.length_singleton];omega) rfl bh fun Tn To Tp yC=>?_;refine oS sF ?_;refine bg rfl rfl rfl bY kD rfl ?_;refine oZ cO (ae ?_);refine oS sF ?_;refine oS sL (oM ?_);refine ct (E:=fR) (xs:=[e]) (vs:=[_]) rfl rfl rfl rfl rfl (by decide) (by decide) fun b52 GH yQ=>?_;refine bX he (yQ.aU aM) rfl rfl rfl rfl (by simp only[List.length_append,List.length_singleton];omega) (by simp only[List.length_append,List.length_singleton];omega) rfl bh fun a53 c53 XU G1=>?_;refine oS sF ?_;refine bg rfl rfl rfl bY kD rfl ?_;refine ak ?_;refine cM (Sub.refl _) (H':=(b5,.cells [.slice aa rds.length ac].toArray 26 (0,0))::(b7,.cells [.slice da rds.length dc].toArray 84 (0,0))::(v3,.cells [.func (.func 106) [].toArray [.pointer (some ⟨Kj,0,none⟩),.pointer (some ⟨og,0,none⟩)].toArray].toArray 160 (0,0))::(Sr++((kb,.cells [.slice Tn (rows++[(⟨some ⟨rz,0,none⟩,rds.length,(dY rds fr met).1⟩:Sl Nat)]).length To,.slice a53 (ends++[e]).length c53].toArray 96 (0,0))::(Tp++(XU++(Sq++(jP++St))))))) aP ?_
  exact fB rfl (.nil) (⟨St,(kb,.cells [.slice Tn (rows++[(⟨some ⟨rz,0,none⟩,rds.length,(dY rds fr met).1⟩:Sl Nat)]).length To,.slice a53 (ends++[e]).length c53].toArray 96 (0,0))::(Tp++(XU++(Sq++jP))),by simp only[List.cons_append,List.append_assoc],V2,_,_,_,_,_,_,_,_,rfl,yC,G1,cG.snoc (s:=⟨some ⟨rz,0,none⟩,rds.length,(dY rds fr met).1⟩) hq (by simpa [Sl.v,lh] using hL),by rw[List.map_append,← we];rfl⟩)
end Go.Proofs.YtmompllplidphaaGreatDoor
