/- Part of the proofs over this seat: see the text that holds the theorem. Conditions: each theorem bears its own. -/
import Derived.Test.YtmompllplidphaaGreatDoorHTZ
import Derived.Test.YtmompllplidphaaGreatDoorGRW1Z
import Derived.Test.YtmompllplidphaaGreatDoorSM35Z
import Derived.Test.YtmompllplidphaaGreatDoorGSC1Z
import Derived.Test.YtmompllplidphaaGreatDoorGSW10Z
namespace Go.Proofs.YtmompllplidphaaGreatDoor
open Go Go.HL Go.Proofs Go.HL.Kl Go.HL.Kl.Mc Go.HL.cm
set_option maxHeartbeats 2000000 in
theorem H0 (ra:Option Addr)(rc:Nat)(re:List Nd)(ey:∀ x∈re,-128≤x.op∧x.op<128)(iC:bz re=true)(n:Nd)(ks:F)(hS:Mc.iR re n ks)(mS:(F.nd n ks .nil).weight≤20)(p5:re.length<100000)(st:Bool)(la:Option Addr)(lc:Nat)(lr:List (Sl Pp))(Pl:Hp)(Ve:lG cX (.slice la lr.length lc) lr Pl)(Pb:nR Pl lr)(hlu:∀ s∈lr,sQ n ks s.xs):HL.Fn Tryz.prog 130 [.slice ra re.length rc,.slice la lr.length lc,.bool st] (fun w=>(Rd En w (.slice ra re.length rc) re∧ew (keys Pl) (.slice ra re.length rc))∧Rd cX w (.slice la lr.length lc) lr) Pl (HdP re n ks st (lr.map Sl.xs) Pl):=by
 refine aW Tryz.func130 rfl rfl rfl fun w0 hw=>?_
 have dr:=hw.1.1.sl
 have MF:=hw.2.sl
 have hle:=MF.le
 refine cR fun _ bI=>?_;refine oA (oZ bI (cR fun _ bJ=>?_));refine oM (oM ?_);refine oS (ab (v':=.agg [.slice ra re.length rc,.bool st,.bool false].toArray) (bG (cs:=[_,_,_]) (vs:=[_,_]) rfl rfl (.cons rfl rfl rfl rfl rfl (.cons rfl rfl rfl rfl rfl .nil))) rfl) ?_;refine aB rfl rfl fun b7=>?_;refine bf rfl rfl bY aS aS fE ?_;refine oZ bJ (cR fun _ bK=>?_);refine aB rfl rfl fun b8=>?_;refine aB rfl rfl fun b9=>?_;refine oZ bK (cR fun _ bU=>?_);refine aB rfl rfl fun gT=>?_;refine bg rfl rfl rfl bY kD rfl ?_;refine oZ bU (ah fun _ bT=>?_);refine cR fun _ bZ=>?_;refine oA (oZ bZ (ai ?_));refine cY (fun (i:Nat)(z:Oc)=>i≤lr.length∧vm re n ks z.sa z.sc z.rows z.Ss z.oa z.oc z.fW z.So z.dn z.Pl∧(∃ Pn,z.Pl=Pl++Pn)∧Ii re (st=true) (false=true) (lr.map Sl.xs) i (z.rows.map Sl.xs)) (fun (i:Nat)(z:Oc)=>[(11,.int .i64 i)]) [(1,_),(6,_),(7,_),(8,_),(9,_),(10,_)] (fun (i:Nat)(z:Oc)=>(b7,.cells [.slice ra re.length rc,.bool st,.bool false].toArray 212 (0,0))::(b8,.cells [.slice z.sa z.rows.length z.sc].toArray 142 (0,0))::(b9,.cells [.slice z.oa z.fW.length z.oc].toArray 142 (0,0))::(gT,.cells [.bool z.dn].toArray 4 (0,0))::(z.Ss++(z.So++z.Pl))) (fun (i:Nat)(z:Oc)=>lr.length-i) 0 ⟨none,0,[],[],none,0,[],[],false,Pl,[]⟩ ⟨Nat.zero_le _,Zp re n ks Pl,⟨[],(List.append_nil _).symm⟩,Ii.zero⟩ aH aH (by change HSub _ ((b7,.cells [.slice ra re.length rc,.bool st,.bool false].toArray 212 (0,0))::(b8,.cells [.slice none 0 0].toArray 142 (0,0))::(b9,.cells [.slice none 0 0].toArray 142 (0,0))::(gT,.cells [.bool false].toArray 4 (0,0))::Pl);exact aP) ?_
 rintro i ⟨sa,sc,rows,Ss,oa,oc,fW,So,dn,Pq,ys⟩ ⟨hi,hz,⟨Pn,xL⟩,hH⟩
 dsimp only at hz xL hH
 dsimp only
 have Eg:c4 Pl Pq:=by rw[xL];exact c4.ga
 refine ah fun _ cj=>?_;refine cR fun _ ck=>?_;refine oM (oM ?_);refine oS sC ?_
 by_cases B4:i<lr.length
 ·obtain⟨r,wQ⟩:∃ r,lr[i]?=some r:=gE
  have xM:=List.mem_of_getElem? wQ
  refine oS (ab (v':=.bool true) (aF rfl rfl) (congrArg Value.bool (decide_eq_true (by omega)))) ?_;refine oZ ck ?_;refine gp cj (ah fun _ cQ=>?_);refine ai ?_;refine aK ((b7,.cells [.slice ra re.length rc,.bool st,.bool false].toArray 212 (0,0))::Pq) (fun i=>Nat.beq i 5) ?_;refine eK 0 rfl (aD rfl (aI.aO (.own aV)) aS) ?_;refine eP 1 rfl sM ?_;refine eP 2 rfl sM ?_;refine eP 3 rfl (au rfl rfl MF (by omega)) ?_;refine eK 4 rfl (aD rfl (((Ve.mono Eg).aU aM).gx i wQ (by omega)) aS) ?_;refine eO 5 rfl ?_;refine aX (vr ra rc re ey iC n ks hS mS p5 st false (62-rows.length) r.a r.c r.xs b8 b9 gT sa sc rows Ss oa oc fW So dn Pq hz ((Pb r xM).mono Eg) (hlu r xM) (Nat.le_refl _)) rfl rfl rfl ((aJ.bR bh (aJ.bR bh (aJ.bR bh (aJ.cy bh (aJ.cy bh bh)))))) (fun w st=>⟨⟨(cq.old hw.1.1 hw.1.2).out w st,St.di st (by exact yn) hw.1.1 hw.1.2 (by decide)⟩,(((Pb r xM).mono Eg).rd.aU aM).out w st⟩) (fun P0 S26 VB=>?_)
  obtain⟨VC,VD,Eh,VE,VF,VG,MG,VH,VJ,MH,rfl,VK,VL⟩:=VB
  unfold fD
  refine ak ?_;refine cE rfl ?_;refine cw (by kernel_rfl) ?_;refine aq (xZ cQ (ae (oM ?_)));refine oS sD (oA (ak ?_));exact xI (i+1,⟨VC,VD,Eh,VE,VF,VG,MG,VH,VJ,Pq++MH,[]⟩) ⟨by omega,VK,⟨Pn++MH,by rw[xL,List.append_assoc]⟩,hH.step (by rw[List.getElem?_map,wQ];rfl) VL⟩
 ·obtain rfl:i=lr.length:=by omega
  rw[← List.length_map (f:=Sl.xs)] at hH
  have hM:=Lh hH
  refine oS (ab (v':=.bool false) (aF rfl rfl) (congrArg Value.bool (decide_eq_false (by omega)))) ?_;refine oZ ck ?_;refine cF ?_;refine ay ?_;refine ad (ad (ag (xZ bT (cR fun _ bw=>?_))));refine oS sL (oA (oZ bw (aA ?_)));refine ?_;subst xL
  refine cM (Sub.refl _) (H':=So++(Pl++Pn)) aP ?_;exact xR rfl rfl (⟨oa,oc,fW,So,Pn,rfl,rfl,hz.oo,hz.Yl,fun s hs=>hz.iu s (by have h9:=hz.oe;rw[h9] at hs;exact (List.mem_filter.1 hs).1),Nat.le_trans (hz.len hS.wf mS).2 (hz.len hS.wf mS).1,rows.map Sl.xs,fun x=>by rw[hM x];simp only[Bool.false_eq_true],by rw[hz.oe,Lg]⟩)
set_option maxHeartbeats 2000000 in
theorem Mm (ra:Option Addr)(rc:Nat)(re:List Nd)(ey:∀ x∈re,-128≤x.op∧x.op<128)(iC:bz re=true)(n:Nd)(ks:F)(hS:Mc.iR re n ks)(mS:(F.nd n ks .nil).weight≤20)(p5:re.length<100000)(st:Bool)(la:Option Addr)(lc:Nat)(lr:List (Sl Pp))(Pl:Hp)(Ve:lG cX (.slice la lr.length lc) lr Pl)(Pb:nR Pl lr)(hlu:∀ s∈lr,sQ n ks s.xs):HL.Fn Tryz.prog 90 [.slice ra re.length rc,.slice la lr.length lc,.bool st] (fun w=>(Rd En w (.slice ra re.length rc) re∧ew (keys Pl) (.slice ra re.length rc))∧Rd cX w (.slice la lr.length lc) lr) Pl (fun v S'=>Pl=S'∧∃ e,v = .bool e∧(e=true↔cm.u1 re (st=true) (lr.map Sl.xs))):=by
 refine aW Tryz.func90 rfl rfl rfl fun w0 hw=>?_
 have dr:=hw.1.1.sl
 have MF:=hw.2.sl
 have hle:=MF.le
 refine cR fun _ bI=>?_;refine oA (oZ bI (cR fun _ bJ=>?_));refine oM (oM ?_);refine oS (ab (v':=.agg [.slice ra re.length rc,.bool st,.bool true].toArray) (bG (cs:=[_,_,_]) (vs:=[_,_,_]) rfl rfl (.cons rfl rfl rfl rfl rfl (.cons rfl rfl rfl rfl rfl (.cons rfl rfl rfl rfl rfl .nil)))) rfl) ?_;refine aB rfl rfl fun b7=>?_;refine bf rfl rfl bY aS aS fE ?_;refine oZ bJ (cR fun _ bK=>?_);refine aB rfl rfl fun b8=>?_;refine aB rfl rfl fun b9=>?_;refine oZ bK (cR fun _ bU=>?_);refine aB rfl rfl fun gT=>?_;refine bg rfl rfl rfl bY kD rfl ?_;refine oZ bU (ah fun _ bT=>?_);refine cR fun _ bZ=>?_;refine oA (oZ bZ (ai ?_));refine cY (fun (i:Nat)(z:Oc)=>i≤lr.length∧vm re n ks z.sa z.sc z.rows z.Ss z.oa z.oc z.fW z.So z.dn z.Pl∧(∃ Pn,z.Pl=Pl++Pn)∧Ii re (st=true) (true=true) (lr.map Sl.xs) i (z.rows.map Sl.xs)) (fun (i:Nat)(z:Oc)=>[(11,.int .i64 i)]) [(1,_),(6,_),(7,_),(8,_),(9,_),(10,_)] (fun (i:Nat)(z:Oc)=>(b7,.cells [.slice ra re.length rc,.bool st,.bool true].toArray 212 (0,0))::(b8,.cells [.slice z.sa z.rows.length z.sc].toArray 142 (0,0))::(b9,.cells [.slice z.oa z.fW.length z.oc].toArray 142 (0,0))::(gT,.cells [.bool z.dn].toArray 4 (0,0))::(z.Ss++(z.So++z.Pl))) (fun (i:Nat)(z:Oc)=>lr.length-i) 0 ⟨none,0,[],[],none,0,[],[],false,Pl,[]⟩ ⟨Nat.zero_le _,Zp re n ks Pl,⟨[],(List.append_nil _).symm⟩,Ii.zero⟩ aH aH (by change HSub _ ((b7,.cells [.slice ra re.length rc,.bool st,.bool true].toArray 212 (0,0))::(b8,.cells [.slice none 0 0].toArray 142 (0,0))::(b9,.cells [.slice none 0 0].toArray 142 (0,0))::(gT,.cells [.bool false].toArray 4 (0,0))::Pl);exact aP) ?_
 rintro i ⟨sa,sc,rows,Ss,oa,oc,fW,So,dn,Pq,ys⟩ ⟨hi,hz,⟨Pn,xL⟩,hH⟩
 dsimp only at hz xL hH
 dsimp only
 have Eg:c4 Pl Pq:=by rw[xL];exact c4.ga
 refine ah fun _ cj=>?_;refine cR fun _ ck=>?_;refine oM (oM ?_);refine oS sC ?_
 by_cases B4:i<lr.length
 ·obtain⟨r,wQ⟩:∃ r,lr[i]?=some r:=gE
  have xM:=List.mem_of_getElem? wQ
  refine oS (ab (v':=.bool true) (aF rfl rfl) (congrArg Value.bool (decide_eq_true (by omega)))) ?_;refine oZ ck ?_;refine gp cj (ah fun _ cQ=>?_);refine ai ?_;refine aK ((b7,.cells [.slice ra re.length rc,.bool st,.bool true].toArray 212 (0,0))::Pq) (fun i=>Nat.beq i 5) ?_;refine eK 0 rfl (aD rfl (aI.aO (.own aV)) aS) ?_;refine eP 1 rfl sM ?_;refine eP 2 rfl sM ?_;refine eP 3 rfl (au rfl rfl MF (by omega)) ?_;refine eK 4 rfl (aD rfl (((Ve.mono Eg).aU aM).gx i wQ (by omega)) aS) ?_;refine eO 5 rfl ?_;refine aX (vr ra rc re ey iC n ks hS mS p5 st true (62-rows.length) r.a r.c r.xs b8 b9 gT sa sc rows Ss oa oc fW So dn Pq hz ((Pb r xM).mono Eg) (hlu r xM) (Nat.le_refl _)) rfl rfl rfl ((aJ.bR bh (aJ.bR bh (aJ.bR bh (aJ.cy bh (aJ.cy bh bh)))))) (fun w st=>⟨⟨(cq.old hw.1.1 hw.1.2).out w st,St.di st (by exact yn) hw.1.1 hw.1.2 (by decide)⟩,(((Pb r xM).mono Eg).rd.aU aM).out w st⟩) (fun P0 S26 VB=>?_)
  obtain⟨VC,VD,Eh,VE,VF,VG,MG,VH,VJ,MH,rfl,VK,VL⟩:=VB
  unfold fD
  refine ak ?_;refine cE rfl ?_;refine cw (by kernel_rfl) ?_;refine aq (xZ cQ (ae (oM ?_)));refine oS sD (oA (ak ?_));exact xI (i+1,⟨VC,VD,Eh,VE,VF,VG,MG,VH,VJ,Pq++MH,[]⟩) ⟨by omega,VK,⟨Pn++MH,by rw[xL,List.append_assoc]⟩,hH.step (by rw[List.getElem?_map,wQ];rfl) VL⟩
 ·obtain rfl:i=lr.length:=by omega
  rw[← List.length_map (f:=Sl.xs)] at hH
  have hM:=Lh hH
  refine oS (ab (v':=.bool false) (aF rfl rfl) (congrArg Value.bool (decide_eq_false (by omega)))) ?_;refine oZ ck ?_;refine cF ?_;refine ay ?_;refine ad (ad (ag (xZ bT (cR fun _ bw=>?_))));refine oS sL (oA (oZ bw (aA ?_)));refine ?_;subst xL
  refine cM (Sub.refl _) (H':=Pl) aP ?_;exact xR rfl rfl (⟨rfl,dn,rfl,by rw[hz.de,decide_eq_true_eq,hM];unfold cm.u1;simp only[eq_self,eq_true rfl]⟩)
set_option maxHeartbeats 2000000 in
theorem BK (ra:Option Addr)(rc:Nat)(re:List Nd)(ey:∀ x∈re,-128≤x.op∧x.op<128)(iC:bz re=true)(n:Nd)(ks:F)(hS:Mc.iR re n ks)(mS:(F.nd n ks .nil).weight≤20)(p5:re.length<100000)(st:Bool)(la:Option Addr)(lc:Nat)(lr:List (Sl Pp))(Pl:Hp)(Ve:lG cX (.slice la lr.length lc) lr Pl)(Pb:nR Pl lr)(hlu:∀ s∈lr,sQ n ks s.xs)(bt:Nat)(hb6:bt<256):HL.Fn Tryz.prog 91 [.slice ra re.length rc,.slice la lr.length lc,.bool st,.int .u8 (bt:Nat)] (fun w=>(Rd En w (.slice ra re.length rc) re∧ew (keys Pl) (.slice ra re.length rc))∧Rd cX w (.slice la lr.length lc) lr) Pl (BhP re n ks st bt (lr.map Sl.xs) Pl):=by
 refine aW Tryz.func91 rfl rfl rfl fun w0 hw=>?_
 have dr:=hw.1.1.sl
 refine cR fun _ bI=>?_;refine oA (oZ bI (cR fun _ bJ=>?_));refine oA (oZ bJ (cR fun _ bK=>?_));refine oM (oM (oM ?_));refine aX (H0 ra rc re ey iC n ks hS mS p5 st la lc lr Pl Ve Pb hlu) rfl rfl rfl (bh) (fun w st=>⟨⟨(cq.old hw.1.1 hw.1.2).out w st,St.di st (by exact yn) hw.1.1 hw.1.2 (by decide)⟩,(Ve.aU aM).out w st⟩) (fun v15 Nk ag9=>?_)
 obtain⟨a15,c15,hr,aha,Pn,rfl,rfl,Hx,ahb,ahc,aqq,cur,ahd,hhc⟩:=ag9
 have mV:=Hx.sl
 refine oA (oZ bK (ah fun _ bU=>?_));refine cR fun _ bT=>?_;refine oA (oZ bT (ai ?_));refine lS (fun (i:Nat)(oa:Option Addr)(oc:Nat)(out:List (Sl Pp))(So:Hp)=>i≤hr.length∧out.length≤i∧out.map Sl.xs=J2 re bt ((hr.take i).map Sl.xs) []∧nR (Pl++Pn) out∧aG cX 1 140 (.slice oa out.length oc) out So) (fun (i:Nat)(oa:Option Addr)(oc:Nat)(out:List (Sl Pp))(So:Hp)=>[(9,.slice oa out.length oc),(11,.int .i64 i)]) [(0,_),(3,_),(8,_),(10,_)] (fun (i:Nat)(oa:Option Addr)(oc:Nat)(out:List (Sl Pp))(So:Hp)=>aha++(So++(Pl++Pn))) (fun (i:Nat)(oa:Option Addr)(oc:Nat)(out:List (Sl Pp))(So:Hp)=>hr.length-i) 0 none 0 [] [] ⟨Nat.zero_le _,Nat.zero_le _,rfl,(fun _ h=>by cases h),aG.nil⟩ aH aH aP ?_
 rintro i oa oc out So ⟨hi,Xo,zV,hR,hO⟩
 refine ah fun _ bZ=>?_;refine cR fun _ cj=>?_;refine oM (oM ?_);refine oS sC ?_
 by_cases B4:i<hr.length
 ·obtain⟨r,wQ⟩:∃ r,hr[i]?=some r:=gE
  have xM:=List.mem_of_getElem? wQ
  have ahe:nP re r.xs=true:=(List.mem_filter.1 (show r.xs∈cur.filter (nP re) by rw[← hhc];exact List.mem_map.2 ⟨r,xM,rfl⟩)).2
  have Io:=ahc r xM
  have vo:=ahb r xM
  obtain⟨sI,pN,rx⟩:=r
  obtain⟨⟨pi,pr⟩,u,rfl⟩:∃ p u,rx=p::u:=Li (n:=n) (ks:=ks) ahe
  obtain⟨x,gv,e1,ie,kG⟩:=Ba hS Io
  have qH:=(List.getElem?_eq_some_iff.1 ie).1
  have KS:eA (.slice sI ((pi,pr)::u).length pN) ((pi,pr)::u).length:=vo.sl
  have hrd:lG mw (.slice sI ((pi,pr)::u).length pN) ((pi,pr)::u) (Pl++Pn):=vo.rd
  have TT:=KS.cap
  have pI:0<((pi,pr)::u).length:=Nat.succ_pos _
  refine oS (ab (v':=.bool true) (aF rfl rfl) (congrArg Value.bool (decide_eq_true (by omega)))) ?_;refine oZ cj ?_;refine gp bZ (ah fun _ ck=>?_);refine ai (cR fun _ cQ=>?_);refine oM (oM (oM ?_));refine oS (au rfl rfl mV (by omega)) ?_;refine oS sF ?_;refine oS (az rfl ((Hx.aU aM).ld (u:=.slice sI ((pi,pr)::u).length pN) i 0 wQ rfl (by decide) (by omega))) ?_;refine oS (au rfl rfl KS (by omega)) ?_;refine oS sF ?_;refine oS (az rfl ((hrd.aU aM).ld (u:=.int .i64 (pi:Nat)) 0 0 rfl rfl (by decide) (by omega))) ?_;refine oS (au rfl rfl dr (by omega)) ?_;refine oS sF ?_;refine oS (aD rfl ((cq.old hw.1.1 hw.1.2).ldp pi 1 ie yH (by omega)) (th _)) ?_;refine oM ?_;refine ar (s4 x.set bt hb6) rfl rfl rfl (fun _ _=>trivial) (fun v35 Al=>?_)
  cases hhb:BitVec.getLsbD x.set bt
  ·rw[hhb] at Al
   subst Al;refine oZ cQ ?_;refine cF (ax (aq (xZ ck (ae (oM ?_)))));refine oS sD (oA (ak ?_));exact xI (i+1,oa,oc,out,So) ⟨by omega,by dsimp only;omega,by rw[aY wQ,List.map_append,List.map_cons,List.map_nil,vA,FF ie,hhb,zV];rfl,hR,hO⟩
  ·rw[hhb] at Al
   subst Al;refine oZ cQ ?_;refine cT (ae (oM (oM (oM ?_))));refine oS (au rfl rfl mV (by omega)) ?_;refine oS sF ?_;refine oS (az rfl ((Hx.aU aM).ld (u:=.slice sI ((pi,pr)::u).length pN) i 0 wQ rfl (by decide) (by omega))) ?_;refine oS (ab (v':=.slice (eu sI pN 1 2) u.length (pN-1)) (qq rfl rfl (by simp only[List.length_cons] at TT ⊢;omega)) rfl) ?_;refine oS (ab (v':=.agg [.slice (eu sI pN 1 2) u.length (pN-1)].toArray) (bG (cs:=[_]) (vs:=[_]) rfl rfl (.cons rfl rfl rfl rfl rfl .nil)) rfl) ?_;refine aX (zy oa oc out ⟨eu sI pN 1 2,pN-1,u⟩ So (Pl++Pn) hO (by omega) hR vo.tl) rfl rfl rfl ((aJ.cy bh (aJ.cy bh bh))) (fun _ _=>trivial) (fun v44 S44 ⟨a44,c44,Sw,Ry,Mh,hW⟩=>?_)
   subst Ry;subst Mh
   refine oA (ak (aq (xZ ck (ae (oM ?_)))));refine oS sD (oA (ak ?_));exact xI (i+1,a44,c44,vR out ⟨eu sI pN 1 2,pN-1,u⟩,Sw) ⟨by omega,by dsimp only;unfold vR;split <;> (try rw[List.length_append,List.length_singleton]) <;> omega,by rw[aY wQ,List.map_append,List.map_cons,List.map_nil,vA,FF ie,hhb,PR,zV];rfl,hR.add vo.tl,hW⟩
 ·obtain rfl:i=hr.length:=by omega
  rw[List.take_length] at zV
  refine oS (ab (v':=.bool false) (aF rfl rfl) (congrArg Value.bool (decide_eq_false (by omega)))) ?_;refine oZ cj ?_;refine cF ?_;refine ay ?_;refine ad (ad (ag (xZ bU (cR fun _ bw=>?_))));refine oM (oA (oZ bw (aA ?_)));refine ?_;refine cM (Sub.refl _) (H':=So++(Pl++Pn)) aP ?_;exact xR rfl rfl (⟨oa,oc,out,So,Pn,rfl,rfl,hO,hR,by omega,by rw[zV];exact xz _ _ (by simp),fun u=>by rw[zV,hhc];exact XM ahd⟩)
theorem c4.Q0 {A B C:Hp}:c4 B (A++(B++C)):=fun p hp=>List.mem_append_right _ (List.mem_append_left _ hp)
set_option maxHeartbeats 8000000 in
theorem HM (ra:Option Addr)(rc:Nat)(re:List Nd)(ey:∀ x∈re,-128≤x.op∧x.op<128)(iC:bz re=true)(n:Nd)(ks:F)(hS:Mc.iR re n ks)(mS:(F.nd n ks .nil).weight≤20)(p5:re.length<100000)(aa:Option Addr)(ac:Nat)(at_:List Kl.Cl)(ha0:0<at_.length)(ha6:at_.length≤256):HL.Fn Tryz.prog 33 [.slice ra re.length rc,.slice aa at_.length ac] (fun w=>Rd En w (.slice ra re.length rc) re∧Rd Ec w (.slice aa at_.length ac) at_) [] (fun v S'=>∃ S2,HSub S' S2∧WdP re n ks (at_.map ek) v S2):=by
 refine aW Tryz.func33 rfl rfl rfl fun w0 hw=>?_
 have dr:=hw.1.sl
 have Ik:=hw.2.sl
 have Ve:=Ik.le
 refine cR fun _ bI=>?_;refine aB rfl rfl fun b4=>?_;refine oZ bI (cR fun _ bJ=>?_);refine aB rfl rfl fun b5=>?_;refine oZ bJ (cR fun _ bK=>?_);refine oA (oZ bK (cR fun _ bU=>?_));refine oM ?_;refine oS (ab (v':=.agg (mw (0,0)).toArray) (bG (cs:=[_,_]) (vs:=[_]) rfl rfl (.cons rfl rfl rfl rfl rfl .nil)) rfl) ?_;refine ct (E:=mw) (xs:=[((0,0):Pp)]) (vs:=[_]) rfl rfl rfl rfl rfl (by decide) (by decide) fun v3 Nk yj=>?_;refine oS (ab (v':=.agg [.slice (some ⟨v3,0,none⟩) 1 1].toArray) (bG (cs:=[_]) (vs:=[_]) rfl rfl (.cons rfl rfl rfl rfl rfl .nil)) rfl) ?_;refine ct (E:=cX) (xs:=[(⟨some ⟨v3,0,none⟩,1,[((0,0):Pp)]⟩:Sl Pp)]) (vs:=[_]) rfl rfl rfl rfl rfl (by decide) (by decide) fun b17 zB sS=>?_;refine ct (E:=cX) (xs:=[(⟨some ⟨b17,0,none⟩,1,[(⟨some ⟨v3,0,none⟩,1,[((0,0):Pp)]⟩:Sl Pp)]⟩:Sl (Sl Pp))]) (vs:=[_]) rfl rfl rfl rfl rfl (by decide) (by decide) fun Kf Pw wU=>?_;refine bX aG.nil (wU.aU aM) rfl rfl rfl rfl (by simp) (by simp) rfl (by exact .nil) fun a19 c19 S19 agH=>?_;refine oA (oZ bU (ah fun _ bT=>?_));refine cR fun _ bZ=>?_;refine oA (oZ bZ (ai ?_));refine cY (fun (q:Nat)(z:WoS)=>WR re n ks (at_.map ek) (mC z.sr) z.next z.ends q∧sf z.Pl z.sr∧aG cX 1 142 (.slice z.xa z.sr.length z.xc) z.sr z.Sx∧aG cX 1 36 (.slice z.na z.nr.length z.nc) z.nr z.Sn∧cG jo 1 3 z.nr z.next z.Sq∧z.nr.map Sl.xs=z.next∧aG fR 1 4 (.slice z.ea z.ends.length z.ec) z.ends z.Se) (fun (q:Nat)(z:WoS)=>[(6,.slice z.xa z.sr.length z.xc),(7,.int .i64 q)]) [(0,_),(1,_),(4,_),(5,_)] (fun (q:Nat)(z:WoS)=>(b4,.cells [.slice none 0 0,.slice none 0 0].toArray 79 (0,0))::(b5,.cells [.slice z.na z.nr.length z.nc,.slice z.ea z.ends.length z.ec].toArray 79 (0,0))::(z.Sx++(z.Sn++(z.Sq++(z.Se++z.Pl))))) (fun (q:Nat)(z:WoS)=>1048578-q) 0 ⟨a19,c19,[(⟨some ⟨b17,0,none⟩,1,[(⟨some ⟨v3,0,none⟩,1,[((0,0):Pp)]⟩:Sl Pp)]⟩:Sl (Sl Pp))],S19,none,0,[],[],[],[],none,0,[],[],zB++Nk⟩ ⟨WR.zero,(fun s hs=>by rw[List.mem_singleton.1 hs];exact⟨sS.rds.mono c4.ga,sS.sl,fun t ht=>by rw[List.mem_singleton.1 ht];exact (vn.own yj).mono c4.mG⟩),agH,aG.nil,.nil,rfl,aG.nil⟩ aH aH (by change HSub _ ((b4,.cells [.slice none 0 0,.slice none 0 0].toArray 79 (0,0))::(b5,.cells [.slice none 0 0,.slice none 0 0].toArray 79 (0,0))::(S19++(zB++Nk)));exact aP) ?_
 rintro q ⟨xa,xc,sr,Sx,na,nc,nr,Sn,Sq,next,ea,ec,ends,Se,Pl⟩ ⟨hW,hR,hX,hN,hQ,we,hE⟩
 dsimp only at hW hR hX hN hQ we hE
 dsimp only
 have uD:=hW.many hS mS
 rw[lA] at uD
 have OU:=hW.qs
 rw[lA] at OU
 have gk:=hX.sl
 have nT:=hW.ln
 have hle:=hW.le
 have ap2:nr.length=next.length:=by rw[← we,List.length_map]
 refine ah fun _ cj=>?_;refine cR fun _ ck=>?_;refine oM (oM ?_);refine oS sC ?_
 by_cases hqk:q<sr.length
 ·obtain⟨s,tC⟩:∃ s,sr[q]?=some s:=gE
  have Vf:=hR s (List.mem_of_getElem? tC)
  have hsu:=hW.inU (nH tC)
  refine oS (ab (v':=.bool true) (aF rfl rfl) (congrArg Value.bool (decide_eq_true (by omega)))) ?_;refine oZ ck ?_;refine gp cj (ah fun _ cQ=>?_);refine ai (ah fun _ bw=>?_);refine aK ((b5,.cells [.slice na nr.length nc,.slice ea ends.length ec].toArray 79 (0,0))::Sx) (fun i=>Nat.beq i 13) ?_;refine eP 0 rfl sF ?_;refine eK 1 rfl sL ?_;refine eP 2 rfl sM ?_;refine eP 3 rfl sM ?_;refine eP 4 rfl sM ?_;refine eP 5 rfl (au rfl rfl gk (by omega)) ?_;refine eK 6 rfl (az rfl ((hX.aU aM).ld (u:=.slice s.a s.xs.length s.c) q 0 tC rfl (by decide) (by omega))) ?_;refine eP 7 rfl sM ?_;refine eP 8 rfl (ab (v':=.bool (decide (q=0))) (bO rfl rfl) (congrArg Value.bool (decide_eq_decide.2 (by omega)))) ?_;refine eO 9 rfl ?_;refine aX (Mm ra rc re ey iC n ks hS mS p5 (decide (q=0)) s.a s.c s.xs Pl Vf.rd Vf.rs (fun t ht=>hsu _ (List.mem_map.2 ⟨t,ht,rfl⟩))) rfl rfl rfl (bh) (fun w st=>⟨⟨(cq.bj hw.1).out w st,St.x6 (E:=En) st aM hw.1 (by decide)⟩,(Vf.rd.aU aM).out w st⟩) (fun v35 S35 ⟨agI,Wo,Al,aap⟩=>?_);subst agI
  subst Al
  rw[decide_eq_true_eq] at aap
  refine oX (eO 10 rfl ?_);refine ct (E:=fR) (xs:=[Wo]) (vs:=[_]) rfl rfl rfl rfl rfl (by decide) (by decide) fun b36 S36 Cn=>?_;refine oX (eO 11 rfl ?_);refine bX hE (Cn.aU aM) rfl rfl rfl rfl (by simp;omega) (by simp;omega) rfl bh fun P4 P5 Nr IN=>?_;refine oX ?_;refine eP 12 rfl sF (eO 13 rfl ?_);refine bg rfl rfl rfl bY kD rfl ?_;refine ak ?_;refine cE rfl ?_;refine eZ bw (cR fun _ bF=>?_);refine oA (oZ bF (ah fun _ bD=>?_));refine cR fun _ cb=>?_;refine oA (oZ cb (ai ?_));refine cY (fun (k:Nat)(z:WiS)=>WK re n ks (at_.map ek) (mC z.sr) next ends q (s.xs.map Sl.xs) z.row k∧z.sr[q]?=some s∧sf z.Pl z.sr∧aG cX 1 142 (.slice z.xa z.sr.length z.xc) z.sr z.Sx∧aG jo 1 3 (.slice z.sI z.row.length z.pN) z.row z.Sr) (fun (k:Nat)(z:WiS)=>[(6,.slice z.xa z.sr.length z.xc),(8,.slice z.sI z.row.length z.pN),(9,.int .i64 k)]) [(0,_),(1,_),(4,_),(5,_),(7,_),(20,_),(21,_),(22,_),(23,_),(26,_),(27,_),(28,_),(29,_),(30,_),(31,_),(32,_),(33,_),(34,_),(35,_),(36,_),(37,_),(38,_)] (fun (k:Nat)(z:WiS)=>(b4,.cells [.slice none 0 0,.slice none 0 0].toArray 79 (0,0))::(b5,.cells [.slice na nr.length nc,.slice P4 (ends++[Wo]).length P5].toArray 79 (0,0))::(z.Sx++(Sn++(Sq++(Nr++(z.Sr++z.Pl)))))) (fun (k:Nat)(z:WiS)=>at_.length-k) 0 ⟨xa,xc,sr,Sx,none,0,[],[],Pl⟩ ⟨WK.zero hW (nH tC),tC,hR,hX,aG.nil⟩ aH aH (by change HSub _ ((b4,.cells [.slice none 0 0,.slice none 0 0].toArray 79 (0,0))::(b5,.cells [.slice na nr.length nc,.slice P4 (ends++[Wo]).length P5].toArray 79 (0,0))::(Sx++(Sn++(Sq++(Nr++([]++Pl))))));exact aP) ?_
  rintro k ⟨xa,xc,sr,Sx,sI,pN,row,Sr,Pl⟩ ⟨hK,tC,hR,hX,NX⟩
  dsimp only at hK tC hR hX NX
  dsimp only
  have uD:=hK.w.many hS mS
  rw[lA] at uD
  have gk:=hX.sl
  have sB:=hK.kk
  have EF:=hK.kl
  rw[List.length_map] at sB
  have Fk:=(List.getElem?_eq_some_iff.1 tC).1
  have Vf:=hR s (List.mem_of_getElem? tC)
  refine ah fun _ bL=>?_;refine cR fun _ bQ=>?_;refine oM (oM ?_);refine oS sC ?_
  by_cases hkc:k<at_.length
  ·obtain⟨a,B8⟩:∃ a,at_[k]?=some a:=gE
   have hlb:(at_.map ek)[k]?=some (ek a):=by rw[List.getElem?_map,B8];rfl
   refine oS (ab (v':=.bool true) (aF rfl rfl) (congrArg Value.bool (decide_eq_true (by omega)))) ?_;refine oZ bQ ?_;refine gp bL (ah fun _ cO=>?_);refine ai (ah fun _ df=>?_);refine aK (Sx) (fun i=>Nat.beq i 13) ?_;refine eP 0 rfl sM ?_;refine eP 1 rfl sM ?_;refine eP 2 rfl sM ?_;refine eP 3 rfl (au rfl rfl gk (by omega)) ?_;refine eK 4 rfl (az rfl ((hX.aU aM).ld (u:=.slice s.a s.xs.length s.c) q 0 tC rfl (by decide) (by omega))) ?_;refine eP 5 rfl sM ?_;refine eP 6 rfl (ab (v':=.bool (decide (q=0))) (bO rfl rfl) (congrArg Value.bool (decide_eq_decide.2 (by omega)))) ?_;refine eP 7 rfl sM ?_;refine eP 8 rfl sM ?_;refine eP 9 rfl (au rfl rfl Ik (by omega)) ?_;refine eK 10 rfl (aD rfl ((cq.bj hw.2).gx k B8 (by omega)) (th _)) ?_;refine eO 11 rfl ?_;refine ar (Gr a) rfl rfl rfl (fun _ _=>trivial) (fun v56 Cs=>?_);subst Cs
   refine oX (eO 12 rfl ?_);refine aX (BK ra rc re ey iC n ks hS mS p5 (decide (q=0)) s.a s.c s.xs Pl Vf.rd Vf.rs (fun t ht=>(hK.w.inU hK.ql) _ (List.mem_map.2 ⟨t,ht,rfl⟩)) (ek a) (rJ a)) rfl rfl rfl (bh) (fun w st=>⟨⟨(cq.bj hw.1).out w st,St.x6 (E:=En) st aM hw.1 (by decide)⟩,(Vf.rd.aU aM).out w st⟩) (fun v57 S57 ⟨a57,c57,br,Px,Mn,agL,Vg,Vh,aaq,s3,Mo,OS⟩=>?_);subst agL
   subst Vg
   simp only[decide_eq_true_eq] at OS
   refine oX (eO 13 rfl (oA (ak ?_)));refine cE rfl ?_;refine eZ df (cR fun _ cZ=>?_);refine oA (oZ cZ ?_);refine fU (ι:=Int) (fun to=>Mp sr (br.map Sl.xs) sr.length to) (fun to=>[(11,.int .i64 to)]) [(0,_),(1,_),(4,_),(5,_),(6,_),(7,_),(8,_),(9,_),(10,_),(20,_),(21,_),(22,_),(23,_),(26,_),(27,_),(28,_),(29,_),(30,_),(31,_),(32,_),(33,_),(34,_),(35,_),(36,_),(37,_),(38,_),(39,_),(40,_),(41,_),(42,_),(45,_),(46,_),(47,_),(48,_),(49,_),(50,_),(51,_),(52,_),(53,_),(54,_),(55,_),(56,_),(57,_)] (fun to=>(b4,.cells [.slice none 0 0,.slice none 0 0].toArray 79 (0,0))::(b5,.cells [.slice na nr.length nc,.slice P4 (ends++[Wo]).length P5].toArray 79 (0,0))::(Sx++(Sn++(Sq++(Nr++(Sr++(Px++(Pl++Mn)))))))) aH ?_ ?_
   ·rintro to Ol
    refine ah fun _ dG=>?_;refine cR fun _ eb=>?_;refine oM ?_
    by_cases Wn:to<0
    ·have mq:∀ (j:Nat)(a:Sl (Sl Pp)),1≤j→sr[j]?=some a→¬ vV (br.map Sl.xs) (a.xs.map Sl.xs):=by rcases Ol with ⟨_,h1⟩|⟨_,_,h1,_⟩;(· exact fun j a h2 h3=>h1 j a h2 (List.getElem?_eq_some_iff.1 h3).1 h3);(· omega)
     refine oS (ab (v':=.bool true) (aF rfl rfl) (congrArg Value.bool (decide_eq_true Wn))) ?_;refine oZ eb ?_;refine cT (cR fun _ dL=>?_);refine oM ?_;refine oS sC (oA (oZ dL (ae (oM (oM ?_)))));refine ct (E:=cX) (xs:=[(⟨a57,c57,br⟩:Sl (Sl Pp))]) (vs:=[_]) rfl rfl rfl rfl rfl (by decide) (by decide) fun b91 S91 Vi=>?_;refine bX hX (Vi.aU aM) rfl rfl rfl rfl (by simp;omega) (by simp;omega) rfl bh fun a92 c92 S92 agM=>?_;refine oA (oZ dG (ae (oM (oM ?_))));refine ct (E:=jo) (xs:=[sr.length]) (vs:=[_]) rfl rfl rfl rfl rfl (by decide) (by decide) fun b95 S95 Mq=>?_;refine bX NX (Mq.aU aM) rfl rfl rfl rfl (by simp;omega) (by simp;omega) rfl bh fun a96 c96 Xj CR=>?_;refine oA (ak (aq (xZ cO (ae (oM ?_)))));refine oS sD (oA (ak ?_));exact av (cd (k+1,⟨a92,c92,sr++[(⟨a57,c57,br⟩:Sl (Sl Pp))],S92,a96,c96,row++[sr.length],Xj,Px++(Pl++Mn)⟩) ⟨by rw[Ea];have h9:=hK.new hS hlb Mo OS (fun i a hi ha=>by obtain⟨c,hc,rfl⟩:=HN ha;exact mq i c hi hc);rw[lA] at h9;exact h9,by rw[List.getElem?_append_left Fk];exact tC,(hR.mono c4.Q0).snoc ⟨Vh.rds.mono c4.ga,Vh.sl,aaq.mono c4.mG⟩,agM,CR⟩ (by omega) aH aP)
    ·obtain⟨jto,ja,rfl,hj1,hja,NU⟩:∃ (j:Nat)(a:Sl (Sl Pp)),to=(j:Int)∧1≤j∧sr[j]?=some a∧vV (br.map Sl.xs) (a.xs.map Sl.xs):=by rcases Ol with ⟨h1,_⟩|h1;(· omega);(· exact h1)
     refine oS (ab (v':=.bool false) (aF rfl rfl) (congrArg Value.bool (decide_eq_false Wn))) ?_;refine oZ eb ?_;refine eL dG (ae (oM (oM ?_)));refine ct (E:=jo) (xs:=[jto]) (vs:=[_]) rfl rfl rfl rfl rfl (by decide) (by decide) fun b95 S95 Mq=>?_;refine bX NX (Mq.aU aM) rfl rfl rfl rfl (by simp;omega) (by simp;omega) rfl bh fun a96 c96 Xj CR=>?_;refine oA (ak (aq (xZ cO (ae (oM ?_)))));refine oS sD (oA (ak ?_));exact av (cd (k+1,⟨xa,xc,sr,Sx,a96,c96,row++[jto],Xj,Px++(Pl++Mn)⟩) ⟨hK.old hlb hj1 (nH hja) (fun u=>(NU u).symm.trans (OS u)),tC,hR.mono c4.Q0,hX,CR⟩ (by omega) aH aP)
   ·intro _ aar
    refine cR fun _ dR=>?_;refine oA (oZ dR (ai ?_));refine cY (fun (i:Nat)(to:Int)=>1≤i∧i≤sr.length∧Mp sr (br.map Sl.xs) i to) (fun (i:Nat)(to:Int)=>[(11,.int .i64 to),(12,.int .i64 i)]) [(0,_),(1,_),(4,_),(5,_),(6,_),(7,_),(8,_),(9,_),(10,_),(20,_),(21,_),(22,_),(23,_),(26,_),(27,_),(28,_),(29,_),(30,_),(31,_),(32,_),(33,_),(34,_),(35,_),(36,_),(37,_),(38,_),(39,_),(40,_),(41,_),(42,_),(45,_),(46,_),(47,_),(48,_),(49,_),(50,_),(51,_),(52,_),(53,_),(54,_),(55,_),(56,_),(57,_)] (fun (i:Nat)(to:Int)=>(b4,.cells [.slice none 0 0,.slice none 0 0].toArray 79 (0,0))::(b5,.cells [.slice na nr.length nc,.slice P4 (ends++[Wo]).length P5].toArray 79 (0,0))::(Sx++(Sn++(Sq++(Nr++(Sr++(Px++(Pl++Mn)))))))) (fun (i:Nat)(to:Int)=>sr.length-i) 1 (-1) ⟨Nat.le_refl _,by omega,.inl ⟨rfl,fun j a h1 h2=>by omega⟩⟩ aH aH aP ?_
    rintro i to ⟨N0,B4,Ol⟩
    refine ah fun _ dk=>?_;refine cR fun _ dE=>?_;refine oM (oM ?_);refine oS sC ?_
    by_cases ap9:i<sr.length
    ·obtain⟨a,Vj⟩:∃ a,sr[i]?=some a:=gE
     have hRa:=(hR a (List.mem_of_getElem? Vj)).mono (Pl':=Pl++Mn) c4.ga
     refine oS (ab (v':=.bool true) (aF rfl rfl) (congrArg Value.bool (decide_eq_true (by omega)))) ?_;refine oM ?_;refine oY (oM ?_);refine oY ?_
     by_cases kE:to<0
     ·refine oS (ab (v':=.bool true) (aF rfl rfl) (congrArg Value.bool (decide_eq_true kE))) ?_;refine oS sT (oZ dE ?_);refine gp dk (ah fun _ dS=>?_);refine ai (cR fun _ dW=>?_);refine oM ?_;refine oS sC (oM (oM ?_));refine oS (au rfl rfl gk (by omega)) ?_;refine oS (az rfl ((hX.aU aM).ld (u:=.slice a.a a.xs.length a.c) i 0 Vj rfl (by decide) (by omega))) ?_;refine oS sC ?_
      by_cases aas:br.length=a.xs.length
      ·refine oS (ab (v':=.bool true) (bO rfl rfl) (congrArg Value.bool (decide_eq_true (by omega)))) ?_;refine oM ?_;refine oY (oM ?_);refine oY (oM ?_);refine oY (oM ?_);refine oY ?_;refine oS (au rfl rfl gk (by omega)) ?_;refine oY ?_;refine oS (az rfl ((hX.aU aM).ld (u:=.slice a.a a.xs.length a.c) i 0 Vj rfl (by decide) (by omega))) ?_;refine oY ?_;refine ff (us:=[]) (vs:=[_,_]) (cs:=[]) (DF a57 a.a c57 a.c br a.xs) rfl rfl rfl (by exact .nil) (fun w st=>⟨(Vh.aU aM).out w st,(hRa.rd.aU aM).out w st,fun s hs=>((aaq s hs).rd.aU aM).out w st,fun s hs=>((hRa.rs s hs).rd.aU aM).out w st⟩) (fun v82 S82 LR=>?_);subst LR
       cases Vk:DG (br.map Sl.xs) (a.xs.map Sl.xs)
       ·refine oS sT (oZ dW ?_);refine cF (ax (aq (xZ dS (ae (oM ?_)))));refine oS sD (oA (ak ?_));exact av (cd (i+1,to) ⟨by omega,by omega,Ol.no kE Vj (fun h=>by rw[Bool.eq_false_iff] at Vk;exact Vk (BL.2 fun u hu=>(h u).1 hu))⟩ (by dsimp only;omega) aH aP)
       ·refine oS sT (oZ dW ?_);refine cT (ae (oM (oA (ak (aq (xZ dS (ae (oM ?_))))))));refine oS sD (oA (ak ?_));exact av (cd (i+1,(i:Int)) ⟨by omega,by omega,.inr ⟨i,a,rfl,N0,Vj,Py Mo (by rw[List.length_map,List.length_map];exact aas) Vk⟩⟩ (by dsimp only;omega) aH aP)
      ·refine oS (ab (v':=.bool false) (bO rfl rfl) (congrArg Value.bool (decide_eq_false (by omega)))) ?_;refine oM ?_;refine oN ?_;refine oN ?_;refine oN ?_;refine oN ?_;refine oN ?_;refine oN ?_;refine oS sP (oZ dW ?_);refine cF (ax (aq (xZ dS (ae (oM ?_)))));refine oS sD (oA (ak ?_));exact av (cd (i+1,to) ⟨by omega,by omega,Ol.no kE Vj (fun h=>aas (by have h9:=Mr Mo ((hK.w.st i _ N0 (nH Vj)).1) h;rw[List.length_map,List.length_map] at h9;exact h9))⟩ (by dsimp only;omega) aH aP)
     ·refine oS (ab (v':=.bool false) (aF rfl rfl) (congrArg Value.bool (decide_eq_false kE))) ?_;refine oS sT (oZ dE ?_);refine cF ?_;refine ay ?_;refine ad (ad (ag ?_));exact av (aar to _ _ (by rcases Ol with ⟨h1,_⟩|h1;(· omega);(· exact .inr h1)) aH aH aP)
    ·refine oS (ab (v':=.bool false) (aF rfl rfl) (congrArg Value.bool (decide_eq_false (by omega)))) ?_;refine oM ?_;refine oN ?_;refine oN ?_;refine oS sP (oZ dE ?_);refine cF ?_;refine ay ?_;refine ad (ad (ag ?_));exact av (aar to _ _ (by obtain rfl:i=sr.length:=(by omega);exact Ol) aH aH aP)
  ·refine oS (ab (v':=.bool false) (aF rfl rfl) (congrArg Value.bool (decide_eq_false (by omega)))) ?_;refine oZ bQ ?_;refine cF ?_;refine ay ?_;refine ad (ad (ag (xZ bD (ae ?_))));refine oS sF ?_;refine oS sL (oM ?_);refine ct (E:=cX) (xs:=[(⟨sI,pN,row⟩:Sl Nat)]) (vs:=[_]) rfl rfl rfl rfl rfl (by decide) (by decide) fun Xt Xu AG=>?_;refine bX hN (AG.aU aM) rfl rfl rfl rfl (by simp;omega) (by simp;omega) rfl bh fun JC JD JE AH=>?_;refine oS sF ?_;refine bg rfl rfl rfl bY kD rfl ?_;refine ak (aq (xZ cQ (ae (oM ?_))));refine oS sD (oA (ak ?_));exact av (cd (q+1,⟨xa,xc,sr,Sx,JC,JD,nr++[⟨sI,pN,row⟩],JE,Sq++Sr,next++[row],P4,P5,(ends++[Wo]),Nr,Pl⟩) ⟨hK.afm (by rw[List.length_map];omega) aap,hR,hX,AH,hQ.snoc (s:=⟨sI,pN,row⟩) NX,by rw[List.map_append,we];rfl,IN⟩ (by omega) aH (by simp only[List.append_assoc];exact aP))
 ·refine oS (ab (v':=.bool false) (aF rfl rfl) (congrArg Value.bool (decide_eq_false (by omega)))) ?_;refine oZ ck ?_;refine cF ?_;refine ay ?_;refine ad (ad (ag (xZ bT (cR fun _ ee=>?_))));refine oS (aD rfl (aI.aO (.own aV)) aS) ?_;refine bf rfl rfl bY aS aS fE ?_;refine oZ ee (aA ?_);refine ?_;exact cr rfl (.agg inferInstance inferInstance rfl (aI.aO (.own aV)) aS (.nil)) (⟨Sn++(Sq++Se),by exact aP,na,nc,nr,ea,ec,next,ends,mC sr,q,Sn,Sq,Se,rfl,rfl,hN,hQ,we,hE,hW,by rw[lA];omega⟩)
theorem Js (ra:Option Addr)(rc:Nat)(re:List Nd)(ey:∀ x∈re,-128≤x.op∧x.op<128)(iC:bz re=true)(n:Nd)(ks:F)(hS:Mc.iR re n ks)(mS:(F.nd n ks .nil).weight≤20)(p5:re.length<100000)(aa:Option Addr)(ac:Nat)(at_:List Kl.Cl)(ha0:0<at_.length)(ha6:at_.length≤256):HL.Fn Tryz.prog 33 [.slice ra re.length rc,.slice aa at_.length ac] (fun w=>Rd En w (.slice ra re.length rc) re∧Rd Ec w (.slice aa at_.length ac) at_) [] (WdP re n ks (at_.map ek)):=
 HL.Fn.sub (HM ra rc re ey iC n ks hS mS p5 aa ac at_ ha0 ha6) fun v S' ⟨S2,h1,h2⟩=>⟨S2,h1,h2⟩
end Go.Proofs.YtmompllplidphaaGreatDoor
