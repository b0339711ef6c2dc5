/- Part of the proofs over this seat: see the text that holds the theorem. Conditions: each theorem bears its own. -/
import Derived.Test.YtmompllplidphaaGreatDoorHTZ
import Derived.Test.YtmompllplidphaaGreatDoorSM35Z
import Derived.Test.YtmompllplidphaaGreatDoorGSN4Z
import Derived.Test.YtmompllplidphaaGreatDoorSM1Z
import Derived.Test.YtmompllplidphaaGreatDoorGB10Z
namespace Go.Proofs.YtmompllplidphaaGreatDoor
open Go Go.HL Go.Proofs Go.HL.Kl Go.HL.Kl.Mc Go.HL.cm
theorem Bm (a1 a2:Option Addr)(c1 c2:Nat)(xs ys:List Pp):HL.Fn Tryz.prog 132 [.agg [.slice a1 xs.length c1].toArray,.agg [.slice a2 ys.length c2].toArray] (fun w=>Rd mw w (.slice a1 xs.length c1) xs∧Rd mw w (.slice a2 ys.length c2) ys) [] (fun v _=>v = .bool (decide (xs=ys))):=by
 refine aW Tryz.func132 rfl rfl rfl fun w0 hw=>?_
 have gk:=hw.1.sl
 have tW:=hw.2.sl
 have CM:=gk.le
 have hly:=tW.le
 refine cR fun _ bI=>?_;refine cB rfl rfl rfl fun b2=>?_;refine cB rfl rfl rfl fun b3=>?_;refine oA (oZ bI (ah fun _ bJ=>?_));refine cR fun _ bK=>?_;refine oS sF ?_;refine oS sL ?_;refine oS sC ?_;refine oS sF ?_;refine oS sL ?_;refine oS sC ?_
 by_cases dM:xs.length≠ys.length
 ·refine cP rfl (ab (v':=.bool true) (eY rfl rfl) (congrArg Value.bool (decide_eq_true (by omega)))) ?_;refine ak ?_;refine av (bK _ _ ?_);refine yh rfl ?_;refine ah fun _ bU=>?_;refine ae ?_;refine cP rfl (dF rfl) ?_;refine ak ?_;refine av (bU _ _ ?_);refine aA ?_;refine aj (?_);exact cr rfl (.tmp rfl (.nil)) (by rw[decide_eq_false (fun h=>dM (by rw[h]))];rfl)
 ·refine oS (ab (v':=.bool false) (eY rfl rfl) (congrArg Value.bool (decide_eq_false (by omega)))) ?_;refine oZ bK ?_;refine eL bJ (ah fun _ bT=>?_);refine cR fun _ bZ=>?_;refine oA (oZ bZ (ai ?_))
  refine aL (fun (i:Nat)=>i≤xs.length∧xs.take i=ys.take i) (fun (i:Nat)=>[(5,.int .i64 i)]) [(2,_),(3,_)] (fun (i:Nat)=>[(b2,.cells [.slice a1 xs.length c1].toArray 140 (0,0)),(b3,.cells [.slice a2 ys.length c2].toArray 140 (0,0))]) (fun (i:Nat)=>xs.length-i) 0 ⟨by omega,rfl⟩ aH aH aP ?_
  rintro i ⟨hi,hti⟩
  refine ah fun _ cj=>?_;refine cR fun _ ck=>?_;refine oM ?_;refine oS sF ?_;refine oS sL ?_;refine oS sC ?_
  by_cases B4:i<xs.length
  ·obtain⟨x,ie⟩:∃ x,xs[i]?=some x:=gE
   obtain⟨y,hyi⟩:∃ y,ys[i]?=some y:=gE
   refine oS (ab (v':=.bool true) (aF rfl rfl) (congrArg Value.bool (decide_eq_true (by omega)))) ?_;refine oZ ck ?_;refine gp cj (ah fun _ cQ=>?_);refine ai (ah fun _ bw=>?_);refine iA (by kernel_rfl) ?_;refine .op rfl (j8 rfl rfl (by decide)) ?_;refine .op rfl (az rfl (.own aV rfl)) ?_;refine .op rfl (ba rfl) ?_;refine .op rfl (au rfl rfl gk (by omega)) ?_;refine .op rfl (aD rfl ((cq.bj hw.1).gx i ie (by omega)) aS) ?_;refine .op rfl (j8 rfl rfl (by decide)) ?_;refine .op rfl (az rfl (.own aV rfl)) ?_;refine .op rfl (ba rfl) ?_;refine .op rfl (au rfl rfl tW (by omega)) ?_;refine .op rfl (aD rfl ((cq.bj hw.2).gx i hyi (by omega)) aS) ?_
   by_cases M7:x≠y
   ·refine .op rfl (ab (v':=.bool true) (tS rfl rfl (fun w=>.int rfl rfl (.int rfl rfl .nil))) (by rw[Mb,decide_eq_true M7])) ?_;refine .nil ?_;refine xZ bw ?_;refine cT (cR fun _ bF=>?_);refine oA (oZ bF (aA ?_));refine aw (aj (aj (aw (aj (?_)))))
    exact cr rfl (.tmp rfl (.nil)) (by rw[decide_eq_false (fun h=>M7 (by rw[h,hyi] at ie;exact (Option.some.inj ie).symm))];rfl)
   ·refine .op rfl (ab (v':=.bool false) (tS rfl rfl (fun w=>.int rfl rfl (.int rfl rfl .nil))) (by rw[Mb,decide_eq_false M7])) ?_;refine .nil ?_;refine xZ bw ?_;refine cF (ax (aq (xZ cQ (ae (oM ?_)))));refine oS sD (oA (ak ?_));exact xI (i+1) ⟨by omega,by rw[aY ie,aY hyi,hti,Classical.not_not.1 M7]⟩
  ·obtain rfl:i=xs.length:=by omega
   refine cP rfl (ab (v':=.bool false) (aF rfl rfl) (congrArg Value.bool (decide_eq_false (by omega)))) ?_;refine ak ?_;refine av (ck _ _ ?_);refine qf rfl ?_;refine ay ?_;refine ad ?_;refine ad ?_;refine ag ?_;refine av (bT _ _ ?_);refine ah fun _ bD=>?_;refine ae ?_;refine cP rfl (dF rfl) ?_;refine ak ?_;refine av (bD _ _ ?_);refine aA ?_;refine ?_;exact cr rfl (.tmp rfl (.nil)) (by rw[decide_eq_true (by have h1:=hti;rw[List.take_length,List.take_of_length_le (by omega)] at h1;exact h1)];rfl)
theorem zy (la:Option Addr)(lc:Nat)(rows:List (Sl Pp))(t:Sl Pp)(So iQ:Hp)(hO:aG cX 1 140 (.slice la rows.length lc) rows So)(hb:rows.length<1000000)(hP:nR iQ rows)(hT:vn t iQ):HL.Fn Tryz.prog 131 [.slice la rows.length lc,.agg [.slice t.a t.xs.length t.c].toArray] (fun _=>True) (So++iQ) (fun v S'=>∃ a' c' Bk,v = .slice a' (vR rows t).length c'∧S'=Bk++iQ∧aG cX 1 140 (.slice a' (vR rows t).length c') (vR rows t) Bk):=by
 refine aW Tryz.func131 rfl rfl rfl fun w0 hw=>?_
 have dr:=hO.sl
 have hle:=dr.le
 refine cR fun _ bI=>?_;refine cB rfl rfl rfl fun b3=>?_;refine oA (oZ bI (ah fun _ bJ=>?_));refine cR fun _ bK=>?_;refine oA (oZ bK (ai ?_))
 refine aL (fun (i:Nat)=>i≤rows.length∧t.xs∉(rows.take i).map Sl.xs) (fun (i:Nat)=>[(5,.int .i64 i)]) [(0,_),(3,_)] (fun (i:Nat)=>(b3,.cells [.slice t.a t.xs.length t.c].toArray 140 (0,0))::(So++iQ)) (fun (i:Nat)=>rows.length-i) 0 ⟨by omega,by simp⟩ aH aH aP ?_
 rintro i ⟨hi,mq⟩
 refine ah fun _ bU=>?_;refine cR fun _ bT=>?_;refine oM (oM ?_);refine oS sC ?_
 by_cases B4:i<rows.length
 ·obtain⟨r,wQ⟩:∃ r,rows[i]?=some r:=gE
  have xM:=List.mem_of_getElem? wQ
  refine oS (ab (v':=.bool true) (aF rfl rfl) (congrArg Value.bool (decide_eq_true (by omega)))) ?_;refine oZ bT ?_;refine gp bU (ah fun _ bZ=>?_);refine ai (ah fun _ cj=>?_);refine aK ((b3,.cells [.slice t.a t.xs.length t.c].toArray 140 (0,0))::(So++iQ)) (fun i=>false) ?_;refine eP 0 rfl sM ?_;refine eP 1 rfl sM ?_;refine eP 2 rfl (au rfl rfl dr (by omega)) ?_;refine eK 3 rfl (aD rfl ((hO.aU aM).gx i wQ (by omega)) aS) ?_;refine eK 4 rfl (aD rfl (aI.aO (.own aV)) aS) ?_;refine eO 5 rfl ?_;refine ff (us:=[]) (vs:=[_,_]) (cs:=[]) (Bm r.a t.a r.c t.c r.xs t.xs) rfl rfl rfl (by exact .nil) (fun w st=>⟨((hP r xM).rd.aU aM).out w st,(hT.rd.aU aM).out w st⟩) (fun v17 zB IU=>?_)
  subst IU
  by_cases heq:r.xs=t.xs
  ·rw[decide_eq_true heq]
   refine oX (eZ cj ?_);refine cT (cR fun _ ck=>?_);refine oM (oA (oZ ck (aA ?_)));refine aw (aj (aj (aw (aj (?_)))))
   refine cM (Sub.refl _) (H':=So++iQ) aP ?_;exact xR rfl rfl (by rw[A9 (List.mem_map.2 ⟨r,xM,heq⟩)];exact⟨la,lc,So,rfl,rfl,hO⟩)
  ·rw[decide_eq_false heq]
   refine oX (eZ cj ?_);refine cF (ax (aq (xZ bZ (ae (oM ?_)))));refine oS sD (oA (ak ?_));exact xI (i+1) ⟨by omega,by rw[aY wQ,List.map_append,List.mem_append];exact fun h=>h.elim mq fun h=>heq (List.mem_singleton.1 h).symm⟩
 ·obtain rfl:i=rows.length:=by omega
  rw[List.take_length] at mq
  refine oS (ab (v':=.bool false) (aF rfl rfl) (congrArg Value.bool (decide_eq_false (by omega)))) ?_;refine oZ bT ?_;refine cF ?_;refine ay ?_;refine ad (ad (ag (xZ bJ (cR fun _ cQ=>?_))));refine oM ?_;refine oS (aD rfl (aI.aO (.own aV)) aS) ?_;refine ct (E:=cX) (xs:=[t]) (vs:=[_]) rfl rfl rfl rfl rfl (by decide) (by decide) fun b21 S21 Uq=>?_;refine bX hO (Uq.aU aM) rfl rfl rfl rfl (by simp;omega) (by simp;omega) rfl bh fun a22 c22 V1 C9=>?_;refine oA (oZ cQ (aA ?_));refine ?_;refine cM (Sub.refl _) (H':=V1++iQ) aP ?_;exact xR rfl rfl (by rw[vp mq];exact⟨a22,c22,V1,rfl,rfl,C9⟩)
end Go.Proofs.YtmompllplidphaaGreatDoor
namespace Go.Proofs.YtmompllplidphaaGreatDoor
open Go Go.HL Go.Proofs Go.HL.Kl Go.HL.Kl.Mc
theorem CD (ra:Option Addr)(rc:Nat)(re:List Nd)(ey:∀ x∈re,-128≤x.op∧x.op<128)(iC:bz re=true)(x:Nd)(ks:F)(i i1:Nat)(hp:Part re (.nd x ks .nil) i i1):HL.Fn Tryz.prog 141 [.slice ra re.length rc,.int .i64 i] (fun w=>Rd En w (.slice ra re.length rc) re) [] (fun v _=>v = .int .i64 i1):=by
 refine aW Tryz.func141 rfl rfl rfl fun w0 hw=>?_
 have dr:=hw.sl
 have s3:=dr.le
 have B4:=(List.getElem?_eq_some_iff.1 hp.head.1).1
 refine cR fun _ bI=>?_;refine oA (oZ bI (ah fun _ bJ=>?_));refine cR fun _ bK=>?_;refine oM ?_;refine ar (lN ra rc re ey) rfl rfl rfl (fun w st=>(cq.bj hw).out w st) (fun v7 hv7=>?_)
 rw[iC] at hv7
 subst hv7;refine oS (aT rfl) ?_;refine oM ?_;refine oY (oM ?_);refine oY ?_;refine oS (bH rfl rfl (by omega)) ?_;refine oS sP (oM ?_);refine oY (oM ?_);refine oY (oM ?_);refine oY ?_;refine oS sC ?_;refine oY ?_;refine oS (EH rfl rfl (by omega)) ?_;refine oS sP (oZ bK ?_);refine eL bJ (cR fun _ bU=>?_);refine oA (oZ bU (ah fun _ bT=>?_));refine ai ?_;refine cY (fun (g:F)(p:Nat)=>Part re g p i1) (fun (g:F)(p:Nat)=>[(5,.int .i64 g.num),(1,.int .i64 p)]) [(0,_),(4,_)] (fun (g:F)(p:Nat)=>_) (fun (g:F)(p:Nat)=>i1-p) (.nd x ks .nil) i hp (by exact Sub.fY rfl (by rw[F.num,F.num];rfl) aH) aH aP ?_
 rintro g p yF
 have zY:=yF.len
 have alG:=yF.le
 have Qb:=F.ju g
 refine ah fun _ bZ=>?_;refine cR fun _ cj=>?_;refine oM ?_
 by_cases hg:(g.num:Int)>0
 ·obtain⟨y,js,r,rfl⟩:∃ y js r,g=F.nd y js r:=by cases g with|nil=>simp[F.num] at hg|nd y a b=>exact⟨y,a,b,rfl⟩
  have hy:=yF.head.1
  have hyl:=(List.getElem?_eq_some_iff.1 hy).1
  have EI:(js.num:Int)=y.kids:=yF.wf.2.1
  have VV:=F.ju js
  simp only[F.num] at hg Qb ⊢
  simp only[F.size] at zY Qb
  refine oS Gp (oZ cj ?_);refine gp bZ (ai (cR fun _ ck=>?_));refine oM ?_;refine oS sU (oM (oM ?_));refine oS (au rfl rfl dr (by omega)) ?_;refine oS sF ?_;refine oS (az rfl ((cq.bj hw).ld p 8 hy rfl (by decide) (by omega))) ?_;refine oS sD (oA (oZ ck (ae (oM ?_))));refine oS sD (oA (ak (aq ?_)));exact av (cd ((js.app r),p+1) yF.down (by dsimp only;omega) (by exact Sub.fY rfl (by rw[F.EJ,← EI];congr 1;omega) aH) aP)
 ·obtain rfl:g=F.nil:=F.yG (by omega)
  simp only[F.size] at zY
  refine oS Gq (oZ cj ?_);refine cF ?_;refine ay ?_;refine ad (ad (ag (xZ bT (cR fun _ cQ=>?_))));refine oM (oA (oZ cQ (aA ?_)));refine ?_;exact xR rfl rfl ((congrArg (Value.int .i64) (by omega)))
end Go.Proofs.YtmompllplidphaaGreatDoor
namespace Go.Proofs.YtmompllplidphaaGreatDoor
open Go Go.HL Go.Proofs Go.HL.Kl Go.HL.Kl.Mc Go.HL.cm
def Zq (l:List Pp)(v:Value)(S:Hp):Prop:=∃ (a:Option Addr)(c:Nat),v = .agg [.slice a l.length c].toArray∧aG mw 2 137 (.slice a l.length c) l S
theorem DF (a1 a2:Option Addr)(c1 c2:Nat)(r1 r2:List (Sl Pp)):HL.Fn Tryz.prog 93 [.slice a1 r1.length c1,.slice a2 r2.length c2] (fun w=>Rd cX w (.slice a1 r1.length c1) r1∧Rd cX w (.slice a2 r2.length c2) r2∧(∀ s∈r1,Rd mw w s.v s.xs)∧∀ s∈r2,Rd mw w s.v s.xs) [] (fun v _=>v = .bool (DG (r1.map Sl.xs) (r2.map Sl.xs))):=by
 refine aW Tryz.func93 rfl rfl rfl fun w0 hw=>?_
 have gk:=hw.1.sl
 have tW:=hw.2.1.sl
 have CM:=gk.le
 have hly:=tW.le
 refine cR fun _ bI=>?_;refine oA (oZ bI (ah fun _ bJ=>?_));refine cR fun _ bK=>?_;refine oA (oZ bK (ai ?_))
 refine aL (fun (i:Nat)=>i≤r1.length∧∀ t∈(r1.take i).map Sl.xs,t∈r2.map Sl.xs) (fun (i:Nat)=>[(5,.int .i64 i)]) [(0,_),(1,_)] (fun (i:Nat)=>[]) (fun (i:Nat)=>r1.length-i) 0 ⟨by omega,by simp⟩ aH aH aP ?_
 rintro i ⟨hi,wo⟩
 refine ah fun _ bU=>?_;refine cR fun _ bT=>?_;refine oM (oM ?_);refine oS sC ?_
 by_cases B4:i<r1.length
 ·obtain⟨r,wQ⟩:∃ r,r1[i]?=some r:=gE
  have xM:=List.mem_of_getElem? wQ
  refine oS (ab (v':=.bool true) (aF rfl rfl) (congrArg Value.bool (decide_eq_true (by omega)))) ?_;refine oZ bT ?_;refine gp bU (ah fun _ bZ=>?_);refine ai (cR fun _ cj=>?_);refine oA (oZ cj (ah fun _ ck=>?_));refine cR fun _ cQ=>?_;refine oA (oZ cQ (ai ?_));refine cY (fun (k:Nat)(b:Bool)=>k≤r2.length∧b=decide (r.xs∈(r2.take k).map Sl.xs)) (fun (k:Nat)(b:Bool)=>[(6,.bool b),(7,.int .i64 k)]) [(0,_),(1,_),(5,_),(8,_),(9,_),(10,_),(11,_)] (fun (k:Nat)(b:Bool)=>[]) (fun (k:Nat)(b:Bool)=>r2.length-k) 0 false ⟨by omega,by simp⟩ aH aH aP ?_
  rintro k b ⟨hk,OR⟩
  refine ah fun _ bw=>?_;refine cR fun _ bF=>?_;refine oM (oM ?_);refine oS sC ?_
  by_cases EF:k<r2.length
  ·obtain⟨s,zo⟩:∃ s,r2[k]?=some s:=gE
   have jr:=List.mem_of_getElem? zo
   refine oS (ab (v':=.bool true) (aF rfl rfl) (congrArg Value.bool (decide_eq_true (by omega)))) ?_;refine oZ bF ?_;refine gp bw (ah fun _ bD=>?_);refine ai ?_;refine aK ([]) (fun i=>false) ?_
   by_cases hb:b=true
   ·refine eP 0 rfl (ab (v':=.bool true) (ba rfl) (by rw[hb])) ?_;refine eP 1 rfl sM ?_;refine eS 2 rfl (eS 3 rfl (eS 4 rfl (eS 5 rfl (eS 6 rfl (eS 7 rfl (eS 8 rfl (eS 9 rfl (eO 10 rfl ?_))))))));refine oN (oX ?_);refine eP 11 rfl sT (eO 12 rfl (oA (oX ?_)));refine cw (by kernel_rfl) ?_;refine aq (xZ bD (ae (oM ?_)));refine oS sD (oA (ak ?_));exact xI (k+1,true) ⟨by omega,by rw[hb] at OR;rw[aY zo,List.map_append];exact (decide_eq_true (List.mem_append_left _ (of_decide_eq_true OR.symm))).symm⟩
   ·refine eP 0 rfl (ab (v':=.bool false) (ba rfl) (by rw[Bool.not_eq_true] at hb;rw[hb])) ?_;refine eP 1 rfl sM ?_;refine eG 2 rfl sM ?_;refine eG 3 rfl sM ?_;refine eG 4 rfl (au rfl rfl gk (by omega)) ?_;refine eG 5 rfl (aD rfl ((cq.bj hw.1).gx i wQ (by omega)) aS) ?_;refine eG 6 rfl sM ?_;refine eG 7 rfl sM ?_;refine eG 8 rfl (au rfl rfl tW (by omega)) ?_;refine eG 9 rfl (aD rfl ((cq.bj hw.2.1).gx k zo (by omega)) aS) ?_;refine eO 10 rfl ?_;refine oY ?_;refine ff (us:=[]) (vs:=[_,_]) (cs:=[]) (Bm r.a s.a r.c s.c r.xs s.xs) rfl rfl rfl (by exact .nil) (fun w st=>⟨(cq.bj (hw.2.2.1 r xM)).out w st,(cq.bj (hw.2.2.2 s jr)).out w st⟩) (fun v30 S30 aff=>?_);subst aff
    by_cases heq:r.xs=s.xs
    ·rw[decide_eq_true heq]
     refine oX ?_;refine eP 11 rfl sP (eO 12 rfl (oA (oX ?_)));refine cw (by kernel_rfl) ?_;refine aq (xZ bD (ae (oM ?_)));refine oS sD (oA (ak ?_));exact xI (k+1,true) ⟨by omega,by rw[aY zo,List.map_append];exact (decide_eq_true (List.mem_append_right _ (List.mem_singleton.2 heq))).symm⟩
    ·rw[decide_eq_false heq]
     refine oX ?_;refine eP 11 rfl sP (eO 12 rfl (oA (oX ?_)));refine cw (by kernel_rfl) ?_;refine aq (xZ bD (ae (oM ?_)));refine oS sD (oA (ak ?_));exact xI (k+1,false) ⟨by omega,by rw[Bool.not_eq_true] at hb;rw[hb] at OR;rw[aY zo,List.map_append];exact (decide_eq_false fun h=>(List.mem_append.1 h).elim (of_decide_eq_false OR.symm) fun h=>heq (List.mem_singleton.1 h)).symm⟩
  ·obtain rfl:k=r2.length:=by omega
   rw[List.take_length] at OR
   refine oS (ab (v':=.bool false) (aF rfl rfl) (congrArg Value.bool (decide_eq_false (by omega)))) ?_;refine oZ bF ?_;refine cF ?_;refine ay ?_;refine ad (ad (ag (xZ ck (cR fun _ cb=>?_))))
   by_cases Wa:b=true
   ·refine oS (ab (v':=.bool true) (ba rfl) (by rw[Wa])) ?_;refine oS (aT rfl) ?_;refine oZ cb ?_;refine cF (ax (aq (xZ bZ (ae (oM ?_)))));refine oS sD (oA (ak ?_));exact xI (i+1) ⟨by omega,by rw[aY wQ,List.map_append];intro t ht;exact (List.mem_append.1 ht).elim (wo t) fun h=>by rw[List.mem_singleton.1 h];rw[Wa] at OR;exact of_decide_eq_true OR.symm⟩
   ·refine oS (ab (v':=.bool false) (ba rfl) (by rw[Bool.not_eq_true] at Wa;rw[Wa])) ?_;refine oS (aT rfl) ?_;refine oZ cb ?_;refine cT (cR fun _ bL=>?_);refine oA (oZ bL (aA ?_));refine aw (aj (aj (aw (aj (?_)))))
    exact cr rfl (.tmp rfl (.nil)) (by unfold DG;rw[show (r1.map Sl.xs).all (fun t=>decide (t∈r2.map Sl.xs))=false from by rw[Bool.eq_false_iff];intro h;rw[Bool.not_eq_true] at Wa;rw[Wa] at OR;exact of_decide_eq_false OR.symm (of_decide_eq_true (List.all_eq_true.1 h r.xs (List.mem_map.2 ⟨r,xM,rfl⟩)))];rfl)
 ·obtain rfl:i=r1.length:=by omega
  rw[List.take_length] at wo
  refine cP rfl (ab (v':=.bool false) (aF rfl rfl) (congrArg Value.bool (decide_eq_false (by omega)))) ?_;refine ak ?_;refine av (bT _ _ ?_);refine qf rfl ?_;refine ay ?_;refine ad ?_;refine ad ?_;refine ag ?_;refine av (bJ _ _ ?_);refine ah fun _ bQ=>?_;refine ae ?_;refine cP rfl (dF rfl) ?_;refine ak ?_;refine av (bQ _ _ ?_);refine aA ?_;refine ?_;exact cr rfl (.tmp rfl (.nil)) (by unfold DG;rw[show (r1.map Sl.xs).all (fun t=>decide (t∈r2.map Sl.xs))=true from List.all_eq_true.2 fun t ht=>decide_eq_true (wo t ht)];rfl)
theorem KT (ra:Option Addr)(rc:Nat)(re:List Nd)(ey:∀ x∈re,-128≤x.op∧x.op<128)(iC:bz re=true)(x:Nd)(ks:F)(i e:Nat)(hp:Part re (.nd x ks .nil) i e)(p5:re.length<1000000):HL.Fn Tryz.prog 138 [.slice ra re.length rc,.int .i64 i] (fun w=>Rd En w (.slice ra re.length rc) re) [] (fun v S'=>∃ a' c',v = .slice a' ((je (i+1) ks).map Int.ofNat).length c'∧aG Ei 1 3 (.slice a' ((je (i+1) ks).map Int.ofNat).length c') ((je (i+1) ks).map Int.ofNat) S'):=by
 refine aW Tryz.func138 rfl rfl rfl fun w0 hw=>?_
 have dr:=hw.sl
 have hle:=dr.le
 obtain⟨ie,gS,_⟩:=hp.head
 have B4:=(List.getElem?_eq_some_iff.1 ie).1
 have aoj:(ks.num:Int)=x.kids:=hp.wf.2.1
 have wY:=F.ju ks
 have EF:=gS.le
 refine cR fun _ bI=>?_;refine oA (oZ bI (cR fun _ bJ=>?_));refine oA (oZ bJ (cR fun _ bK=>?_));refine oM ?_;refine oS sD (oA (oZ bK (ah fun _ bU=>?_)));refine cR fun _ bT=>?_;refine oA (oZ bT (ai ?_));refine lV (fun (j:Nat)(oa:Option Addr)(oc:Nat)(So:Hp)(f:F)(b:Nat)(dn:List Nat)(zs:List Int)=>dn++je b f=je (i+1) ks∧zs=dn.map Int.ofNat∧dn.length=j∧Part re f b (i+1+ks.size)∧f.num+j=ks.num∧aG Ei 1 3 (.slice oa zs.length oc) zs So) (fun (j:Nat)(oa:Option Addr)(oc:Nat)(So:Hp)(f:F)(b:Nat)(dn:List Nat)(zs:List Int)=>[(5,.slice oa zs.length oc),(6,.int .i64 b),(7,.int .i64 j)]) [(0,_),(1,_),(4,_)] (fun (j:Nat)(oa:Option Addr)(oc:Nat)(So:Hp)(f:F)(b:Nat)(dn:List Nat)(zs:List Int)=>So) (fun (j:Nat)(oa:Option Addr)(oc:Nat)(So:Hp)(f:F)(b:Nat)(dn:List Nat)(zs:List Int)=>ks.num-j) 0 none 0 [] ks (i+1) [] [] ⟨rfl,rfl,rfl,gS,rfl,aG.nil⟩ aH aH aP ?_
 rintro j oa oc So f b dn zs ⟨X0,hzs,V0,hpf,Nc,hO⟩
 have hzl:zs.length=j:=by rw[hzs,List.length_map,V0]
 have s3:=hpf.le
 have OS:=hpf.len
 refine ah fun _ bZ=>?_;refine cR fun _ cj=>?_;refine oM (oM (oM ?_));refine oS (au rfl rfl dr (by omega)) ?_;refine oS sF ?_;refine oS (az rfl ((cq.bj hw).ld i 8 ie rfl (by decide) (by omega))) ?_
 by_cases Uo:j<ks.num
 ·obtain⟨y,js,r,rfl⟩:∃ y js r,f = .nd y js r:=by cases f with|nil=>(simp[F.num] at Nc;omega)|nd y js r=>exact⟨y,js,r,rfl⟩
  have hon:=hpf.one
  refine oS (ab (v':=.bool true) (aF rfl rfl) (congrArg Value.bool (decide_eq_true (by omega)))) ?_;refine oZ cj ?_;refine gp bZ (ah fun _ ck=>?_);refine ai (cR fun _ cQ=>?_);refine oM (oM ?_);refine ct (E:=Ei) (xs:=[(b:Int)]) (vs:=[_]) rfl rfl rfl rfl rfl (by decide) (by decide) fun b21 S21 Uq=>?_;refine bX hO (Uq.aU aM) rfl rfl rfl rfl (by simp;omega) (by simp;omega) rfl bh fun a22 c22 V1 C9=>?_;refine oA (oZ cQ (ae (oM (oM ?_))));refine ff (us:=[]) (vs:=[_,_]) (cs:=[]) (CD ra rc re ey iC y js b (b+1+js.size) hon) rfl rfl rfl (by exact .nil) (fun w st=>(cq.bj hw).out w st) (fun v25 S25 F7=>?_)
  subst F7;refine oA (ak (aq (xZ ck (ae (oM ?_)))));refine oS sD (oA (ak ?_));exact xI (j+1,a22,c22,V1,r,b+1+js.size,dn++[b],zs++[(b:Int)]) ⟨by rw[← X0];simp[je],by rw[hzs,List.map_append];rfl,by simp[V0],hpf.head.2.2,by simp only[F.num] at Nc;dsimp only;omega,C9⟩
 ·have hfz:f.num=0:=by omega
  obtain rfl:f = .nil:=by cases f with|nil=>rfl|nd y js r=>simp[F.num] at hfz
  simp only[je,List.append_nil] at X0
  refine oS (ab (v':=.bool false) (aF rfl rfl) (congrArg Value.bool (decide_eq_false (by omega)))) ?_;refine oZ cj ?_;refine cF ?_;refine ay ?_;refine ad (ad (ag (xZ bU (cR fun _ bw=>?_))));refine oM (oA (oZ bw (aA ?_)));refine ?_;exact xR rfl rfl (by subst X0;subst hzs;exact⟨oa,oc,rfl,hO⟩)
theorem Lj (la:Option Addr)(lc:Nat)(l:List Pp)(ta:Option Addr)(tc:Nat)(tx:List Pp)(hb:l.length+tx.length<1000000):HL.Fn Tryz.prog 139 [.slice la l.length lc,.agg [.slice ta tx.length tc].toArray] (fun w=>Rd mw w (.slice la l.length lc) l∧Rd mw w (.slice ta tx.length tc) tx) [] (fun v S'=>∃ S2,HSub S' S2∧Zq (l++tx) v S2):=by
 refine aW Tryz.func139 rfl rfl rfl fun w0 hw=>?_;refine cR fun _ bI=>?_;refine cB rfl rfl rfl fun b3=>?_;refine aB rfl rfl fun b4=>?_;refine oZ bI (cR fun _ bJ=>?_);refine aB rfl rfl fun b5=>?_;refine oZ bJ (cR fun _ bK=>?_);refine oS sF ?_;refine oS sL (oM ?_);refine bX aG.nil (cq.bj hw.1) rfl rfl rfl rfl (by simp;omega) (by simp;omega) rfl (by exact .nil) fun a9 c9 S9 hS9=>?_;refine oS sF ?_;refine bg rfl rfl rfl bY kD rfl ?_;refine oZ bK (cR fun _ bU=>?_);refine oS sF ?_;refine oS sL ?_;refine oS sF ?_;refine oS sL ?_;refine bX hS9 (cq.bj hw.2) rfl rfl rfl rfl (by simp;omega) (by simp;omega) rfl bh fun a15 c15 Nk yj=>?_;refine oS sF ?_;refine bg rfl rfl rfl bY kD rfl ?_;refine oZ bU (cR fun _ bT=>?_);refine oS (aD rfl (aI.aO (.own aV)) aS) ?_;refine bf rfl rfl bY aS aS fE ?_;refine oZ bT (aA ?_);refine ?_;exact cr rfl (.agg inferInstance inferInstance rfl (aI.aO (.own aV)) aS (.nil)) (⟨Nk,by exact aP,a15,c15,rfl,by have h:=yj;simp only[List.nil_append] at h;exact h⟩)
theorem qt (la:Option Addr)(lc:Nat)(l:List Pp)(ta:Option Addr)(tc:Nat)(tx:List Pp)(hb:l.length+tx.length<1000000):HL.Fn Tryz.prog 139 [.slice la l.length lc,.agg [.slice ta tx.length tc].toArray] (fun w=>Rd mw w (.slice la l.length lc) l∧Rd mw w (.slice ta tx.length tc) tx) [] (Zq (l++tx)):=
 HL.Fn.sub (Lj la lc l ta tc tx hb) fun v S' ⟨S2,h1,h2⟩=>⟨S2,h1,h2⟩
def OpC (ra:Option Addr)(rc:Nat)(re:List Nd)(n:Nd)(ks:F)(st en:Bool)(N:Nat):Prop:=∀ (ta:Option Addr)(tc:Nat)(tx:cN)(bs bo bd:Nat)(sa:Option Addr)(sc:Nat)(rows:List (Sl Pp))(Ss:Hp)(oa:Option Addr)(oc:Nat)(fW:List (Sl Pp))(So:Hp)(dn:Bool)(Pl:Hp),vm re n ks sa sc rows Ss oa oc fW So dn Pl→vn ⟨ta,tc,tx⟩ Pl→sQ n ks tx→62-rows.length≤N →
 HL.Fn Tryz.prog 129 [.agg [.slice ra re.length rc,.bool st,.bool en].toArray,.agg [.slice ta tx.length tc].toArray,.pointer (some ⟨bs,0,none⟩),.pointer (some ⟨bo,0,none⟩),.pointer (some ⟨bd,0,none⟩)] (fun w=>(Rd En w (.slice ra re.length rc) re∧ew (keys (fD bs bo bd sa sc rows Ss oa oc fW So dn Pl)) (.slice ra re.length rc))∧Rd mw w (.slice ta tx.length tc) tx) (fD bs bo bd sa sc rows Ss oa oc fW So dn Pl) (fun _ S'=>Yk re n ks st en tx bs bo bd (rows.map Sl.xs) Pl S')
set_option maxHeartbeats 8000000 in
theorem KR (ra:Option Addr)(rc:Nat)(re:List Nd)(ey:∀ x∈re,-128≤x.op∧x.op<128)(iC:bz re=true)(n:Nd)(ks:F)(hS:Mc.iR re n ks)(mS:(F.nd n ks .nil).weight≤20)(p5:re.length<100000)(st en:Bool)(N:Nat)(ih:∀ M,M<N→OpC ra rc re n ks st en M)(ta:Option Addr)(tc:Nat)(tx:cN)(bs bo bd:Nat)(sa:Option Addr)(sc:Nat)(rows:List (Sl Pp))(Ss:Hp)(oa:Option Addr)(oc:Nat)(fW:List (Sl Pp))(So:Hp)(dn:Bool)(Pl:Hp)(hz:vm re n ks sa sc rows Ss oa oc fW So dn Pl)(vo:vn ⟨ta,tc,tx⟩ Pl)(mX:sQ n ks tx)(hm:62-rows.length≤N):HL.Fn Tryz.prog 129 [.agg [.slice ra re.length rc,.bool st,.bool en].toArray,.agg [.slice ta tx.length tc].toArray,.pointer (some ⟨bs,0,none⟩),.pointer (some ⟨bo,0,none⟩),.pointer (some ⟨bd,0,none⟩)] (fun w=>(Rd En w (.slice ra re.length rc) re∧ew (keys ((bs,.cells [.slice sa rows.length sc].toArray 142 (0,0))::(bo,.cells [.slice oa fW.length oc].toArray 142 (0,0))::(bd,.cells [.bool dn].toArray 4 (0,0))::(Ss++(So++Pl)))) (.slice ra re.length rc))∧Rd mw w (.slice ta tx.length tc) tx) ((bs,.cells [.slice sa rows.length sc].toArray 142 (0,0))::(bo,.cells [.slice oa fW.length oc].toArray 142 (0,0))::(bd,.cells [.bool dn].toArray 4 (0,0))::(Ss++(So++Pl))) (fun _ S'=>Yk re n ks st en tx bs bo bd (rows.map Sl.xs) Pl S'):=by
 refine aW Tryz.func129 rfl rfl rfl fun w0 hw=>?_
 have dr:=hw.1.1.sl
 have KS:=hw.2.sl
 have TT:=KS.cap
 have hlen:=hz.len hS.wf mS
 refine cR fun _ bI=>?_;refine cB rfl rfl rfl fun b5=>?_;refine cB rfl rfl rfl fun b6=>?_;refine oZ bI (cR fun _ bJ=>?_);refine oM ?_;refine oS sN ?_;refine oS sL ?_;refine oS sC (oA (oZ bJ (ah fun _ bK=>?_)));refine aK ((bs,.cells [.slice sa rows.length sc].toArray 142 (0,0))::[(b6,.cells [.slice ta tx.length tc].toArray 140 (0,0))]) (fun i=>Nat.beq i 7) ?_;refine eP 0 rfl sM ?_;refine eP 1 rfl sM ?_;refine eP 2 rfl sN ?_;refine eK 3 rfl sL ?_;refine eK 4 rfl (aD rfl (aI.aO (.own aV)) aS) ?_;refine eO 5 rfl ?_;refine aX (zy sa sc rows ⟨ta,tc,tx⟩ Ss Pl hz.os (by omega) hz.rs vo) rfl rfl rfl ((aJ.cy bh bh)) (fun _ _=>trivial) (fun EE S28 ⟨Fz,FA,Sw,gC,aex,hW⟩=>?_);subst gC
 subst aex;refine oX ?_;refine eP 6 rfl sN (eO 7 rfl ?_);refine bg rfl rfl rfl bY kD rfl ?_;refine ak ?_;refine cE rfl ?_;refine eZ bK (ah fun _ bU=>?_);refine cR fun _ bT=>?_;refine oM ?_;refine oS sN ?_;refine oS sL ?_;refine oS sC (oM ?_)
 by_cases hold:tx∈rows.map Sl.xs
 ·rw[A9 hold] at hW ⊢
  refine oS (ab (v':=.bool true) (bO rfl rfl) (congrArg Value.bool (decide_eq_true rfl))) ?_;refine oZ bT ?_;refine cT (aA ?_);refine aj (?_);refine cM (Sub.refl _) (H':=fD bs bo bd Fz FA rows Sw oa oc fW So dn Pl) (by unfold fD;exact aP) ?_;exact cr rfl (.nil) (Hq { hz with os:=hW } (.old hold hz.nd))
 ·rw[vp hold] at hW ⊢
  have B9:=oy.start (re:=re) (S:=(st=true)) (E:=(en=true)) hold hz.nd
  have ai9:=hz.len hS.wf mS
  have VS:rows.length<61:=by have h1:=FB hS.wf mS B9.nd (fun y hy=>by rcases List.mem_append.1 hy with hy|hy;(· obtain⟨s,hs,rfl⟩:=List.mem_map.1 hy;exact hz.iu s hs);(· rw[List.mem_singleton.1 hy];exact mX));simp only[List.length_append,List.length_map,List.length_singleton] at h1;omega
  rw[← vq rows ⟨ta,tc,tx⟩] at B9
  refine oS (ab (v':=.bool false) (bO rfl rfl) (congrArg Value.bool (decide_eq_false (by rw[List.length_append];simp only[List.length_singleton];omega)))) ?_;refine oZ bT ?_;refine eL bU (ah fun _ bZ=>?_);refine cR fun _ cj=>?_;refine oS sF ?_;refine oS sL ?_;refine oS sC ?_
  by_cases wO:tx = []
  ·refine oS (ab (v':=.bool true) (bO rfl rfl) (congrArg Value.bool (decide_eq_true (by rw[wO];rfl)))) ?_;refine oZ cj ?_;refine cT (cR fun _ ck=>?_);refine oM ?_;refine oS sN ?_;refine bg rfl rfl rfl bY kD rfl ?_;refine oZ ck (aA ?_);refine aj (?_);refine cM (Sub.refl _) (H':=fD bs bo bd Fz FA (rows++[⟨ta,tc,tx⟩]) Sw oa oc fW So true Pl) (by unfold fD;exact aP) ?_;exact cr rfl (.nil) (Hq (hz.add (s:=⟨ta,tc,tx⟩) hold vo mX hW hz.oo (by rw[wO];simp[nP]) (by rw[wO];simp)) (B9.fin fun y hy=>by rw[wO] at hy;cases hy))
  ·obtain⟨⟨pi,pr⟩,u,rfl⟩:∃ p u,tx=p::u:=by cases tx with|nil=>exact absurd rfl wO|cons p u=>exact⟨p,u,rfl⟩
   obtain⟨x,gv,e1,ie,kG⟩:=Ba hS mX
   have Io:vn ⟨eu ta tc 1 2,tc-1,u⟩ Pl:=vo.tl
   have hxm:=List.mem_of_getElem? ie
   have anS:=OH hS.wf mX
   have pI:0<((pi,pr)::u).length:=Nat.succ_pos _
   have qH:=(List.getElem?_eq_some_iff.1 ie).1
   have cH:=Hr mS mX
   simp only[List.length_cons] at cH
   have gS:=kG.head.2.1
   have X9:=gS.le
   have aja:=F.ju gv
   have EF:((je (pi+1) gv).map Int.ofNat).length=gv.num:=by rw[List.length_map,tH]
   refine oS (ab (v':=.bool false) (bO rfl rfl) (congrArg Value.bool (decide_eq_false (fun h=>wO (List.eq_nil_of_length_eq_zero (by omega)))))) ?_;refine oZ cj ?_;refine eL bZ (cR fun _ cQ=>?_);refine oS sF ?_;refine oS sL ?_;refine oS (au rfl rfl KS (by omega)) ?_;refine oS (aD rfl ((vo.rd.aU aM).gx 0 rfl rfl) (by rfl)) ?_;refine aB rfl rfl fun M9=>?_;refine bf rfl rfl bY aS aS fE ?_;refine oZ cQ (cR fun _ bw=>?_);refine oS sF ?_;refine oS sL ?_;refine oS (ab (v':=.slice (eu ta tc 1 2) u.length (tc-1)) (qq rfl rfl (by simp only[List.length_cons] at TT ⊢;omega)) rfl) ?_;refine oS (ab (v':=.agg [.slice (eu ta tc 1 2) u.length (tc-1)].toArray) (bG (cs:=[_]) (vs:=[_]) rfl rfl (.cons rfl rfl rfl rfl rfl .nil)) rfl) ?_;refine aB rfl rfl fun kb=>?_;refine bf rfl rfl bY aS aS fE ?_;refine oZ bw (cR fun _ bF=>?_);refine oS sF ?_;refine oS sL ?_;refine oS sF ?_;refine oS sL ?_;refine oS (au rfl rfl dr (by omega)) ?_;refine oS (aD rfl ((cq.old hw.1.1 hw.1.2).gx pi ie rfl) (by rfl)) ?_;refine aB rfl rfl fun rT=>?_;refine bf rfl rfl bY aS aS fE ?_;refine oZ bF (cR fun _ bD=>?_);refine oS sF ?_
   refine oS sL ?_;refine oS sF ?_;refine oS sL ?_;refine aX (KT ra rc re ey iC x gv pi e1 kG (by omega)) rfl rfl rfl (by exact .nil) (fun w st=>(cq.old hw.1.1 hw.1.2).out w st) (fun v60 KU ⟨a60,c60,TV,Ht⟩=>?_);subst TV
   have zo:=Ht.sl
   refine oA (oZ bD (cR fun _ cb=>?_));refine oS sF ?_;refine oS sL (oZ cb (ai (cR fun _ bL=>?_)))
   by_cases h1:x.op=1
   ·refine oS (ab (v':=.bool true) (bO rfl rfl) (congrArg Value.bool (decide_eq_true h1))) ?_;refine oA (oZ bL ?_);refine cT ?_;refine aK ((bo,.cells [.slice oa fW.length oc].toArray 142 (0,0))::[(b6,.cells [.slice ta ((pi,pr)::u).length tc].toArray 140 (0,0))]) (fun i=>Nat.beq i 7) ?_;refine eP 0 rfl sM ?_;refine eP 1 rfl sM ?_;refine eP 2 rfl sN ?_;refine eK 3 rfl sL ?_;refine eK 4 rfl (aD rfl (aI.aO (.own aV)) aS) ?_;refine eO 5 rfl ?_;refine aX (zy oa oc fW ⟨ta,tc,((pi,pr)::u)⟩ So Pl hz.oo (by omega) hz.Yl vo) rfl rfl rfl ((aJ.cy bh bh)) (fun _ _=>trivial) (fun v70 S70 ⟨a70,c70,Sx,aey,OI,hX⟩=>?_);subst aey
    subst OI
    rw[vp (hz.ono hold)] at hX ⊢
    refine oX ?_;refine eP 6 rfl sN (eO 7 rfl ?_);refine bg rfl rfl rfl bY kD rfl ?_;refine ak ?_;refine cE rfl ?_;refine cw (by kernel_rfl) ?_;refine aq ?_;refine cM (Sub.refl _) (H':=fD bs bo bd Fz FA (rows++[⟨ta,tc,((pi,pr)::u)⟩]) Sw a70 c70 (fW++[⟨ta,tc,((pi,pr)::u)⟩]) Sx dn Pl) (by unfold fD;exact aP) ?_;exact fB rfl (.nil) (Hq (hz.add (s:=⟨ta,tc,(pi,pr)::u⟩) hold vo mX hW hX (by rw[gO ie,decide_eq_true h1];rfl) (by simp)) (B9.fin fun y hy=>(QA kG (by omega) (by omega) (by omega) (by omega) (by omega) (by omega) hy).elim))
   ·refine oS (ab (v':=.bool false) (bO rfl rfl) (congrArg Value.bool (decide_eq_false h1))) ?_;refine oA (oZ bL ?_);refine cF (cR fun _ bQ=>?_)
    by_cases h2:x.op=2
    ·refine oS (ab (v':=.bool true) (bO rfl rfl) (congrArg Value.bool (decide_eq_true h2))) ?_;refine oA (oZ bQ ?_);refine cT (cR fun _ cO=>?_);refine oS sF ?_
     by_cases dV:st=true
     ·refine oS (ab (v':=.bool true) (az rfl (.own aV rfl)) (by rw[dV])) ?_;refine oZ cO ?_;refine cT (ae ?_);refine oS (aD rfl (aI.aO (.own aV)) aS) ?_;refine oS (aD rfl (aI.aO (.own aV)) aS) ?_;refine oM (oM (oM ?_));refine aX (ih (62-(rows++[(⟨ta,tc,(pi,pr)::u⟩:Sl Pp)]).length) (by simp only[List.length_append,List.length_singleton];omega) (eu ta tc 1 2) (tc-1) (u) bs bo bd Fz FA (rows++[(⟨ta,tc,(pi,pr)::u⟩:Sl Pp)]) Sw oa oc fW So dn Pl (hz.add (s:=⟨ta,tc,(pi,pr)::u⟩) hold vo mX hW hz.oo (by rw[gO ie,decide_eq_false h1];simp) (by simp)) (Io) (mX.op hS (S:=(st=true)) (E:=(en=true)) (.bol kG h2 dV)) (Nat.le_refl _)) rfl rfl rfl ((aJ.bR bh (aJ.bR bh (aJ.bR bh (aJ.cy bh (aJ.cy bh bh)))))) (fun w st=>⟨⟨(cq.old hw.1.1 hw.1.2).out w st,St.di st (by exact yn) hw.1.1 hw.1.2 (by decide)⟩,((Io).rd.aU aM).out w st⟩) (fun v81 S81 aez=>?_)
      obtain⟨aeA,aeB,TW,aeC,aeD,aeE,Ym,aeF,aeG,aeH,rfl,aeI,aeJ⟩:=aez
      refine ak (aq ?_);refine cM (Sub.refl _) (H':=fD bs bo bd aeA aeB TW aeC aeD aeE Ym aeF aeG (Pl++aeH)) (by unfold fD;exact aP) ?_;exact fB rfl (.nil) (TX aeI ((B9.step aeJ (.bol kG h2 dV)).fin fun y hy=>by rw[(QB kG h2 hy).2];exact List.mem_append_right _ List.mem_cons_self))
     ·refine oS (ab (v':=.bool false) (az rfl (.own aV rfl)) (by rw[Bool.not_eq_true] at dV;rw[dV])) ?_;refine oZ cO ?_;refine cF (ax (aq ?_));refine cM (Sub.refl _) (H':=fD bs bo bd Fz FA (rows++[(⟨ta,tc,(pi,pr)::u⟩:Sl Pp)]) Sw oa oc fW So dn Pl) (by unfold fD;exact aP) ?_;exact fB rfl (.nil) (Hq (hz.add (s:=⟨ta,tc,(pi,pr)::u⟩) hold vo mX hW hz.oo (by rw[gO ie,decide_eq_false h1];simp) (by simp)) (B9.fin fun y hy=>absurd (QB kG h2 hy).1 dV))
    ·refine oS (ab (v':=.bool false) (bO rfl rfl) (congrArg Value.bool (decide_eq_false h2))) ?_;refine oA (oZ bQ ?_);refine cF (cR fun _ df=>?_)
     by_cases h3:x.op=3
     ·refine oS (ab (v':=.bool true) (bO rfl rfl) (congrArg Value.bool (decide_eq_true h3))) ?_;refine oA (oZ df ?_);refine cT (cR fun _ cZ=>?_);refine oS sF ?_
      by_cases V5:en=true
      ·refine oS (ab (v':=.bool true) (az rfl (.own aV rfl)) (by rw[V5])) ?_;refine oZ cZ ?_;refine cT (ae ?_);refine oS (aD rfl (aI.aO (.own aV)) aS) ?_;refine oS (aD rfl (aI.aO (.own aV)) aS) ?_;refine oM (oM (oM ?_));refine aX (ih (62-(rows++[(⟨ta,tc,(pi,pr)::u⟩:Sl Pp)]).length) (by simp only[List.length_append,List.length_singleton];omega) (eu ta tc 1 2) (tc-1) (u) bs bo bd Fz FA (rows++[(⟨ta,tc,(pi,pr)::u⟩:Sl Pp)]) Sw oa oc fW So dn Pl (hz.add (s:=⟨ta,tc,(pi,pr)::u⟩) hold vo mX hW hz.oo (by rw[gO ie,decide_eq_false h1];simp) (by simp)) (Io) (mX.op hS (S:=(st=true)) (E:=(en=true)) (.Tg kG h3 V5)) (Nat.le_refl _)) rfl rfl rfl ((aJ.bR bh (aJ.bR bh (aJ.bR bh (aJ.cy bh (aJ.cy bh bh)))))) (fun w st=>⟨⟨(cq.old hw.1.1 hw.1.2).out w st,St.di st (by exact yn) hw.1.1 hw.1.2 (by decide)⟩,((Io).rd.aU aM).out w st⟩) (fun v91 S91 aeL=>?_)
       obtain⟨aeM,aeN,TY,aeO,aeP,aeQ,Yn,aeR,aeS,aeT,rfl,aeU,aeV⟩:=aeL
       refine ak (aq ?_);refine cM (Sub.refl _) (H':=fD bs bo bd aeM aeN TY aeO aeP aeQ Yn aeR aeS (Pl++aeT)) (by unfold fD;exact aP) ?_;exact fB rfl (.nil) (TX aeU ((B9.step aeV (.Tg kG h3 V5)).fin fun y hy=>by rw[(QC kG h3 hy).2];exact List.mem_append_right _ List.mem_cons_self))
      ·refine oS (ab (v':=.bool false) (az rfl (.own aV rfl)) (by rw[Bool.not_eq_true] at V5;rw[V5])) ?_;refine oZ cZ ?_;refine cF (ax (aq ?_));refine cM (Sub.refl _) (H':=fD bs bo bd Fz FA (rows++[(⟨ta,tc,(pi,pr)::u⟩:Sl Pp)]) Sw oa oc fW So dn Pl) (by unfold fD;exact aP) ?_;exact fB rfl (.nil) (Hq (hz.add (s:=⟨ta,tc,(pi,pr)::u⟩) hold vo mX hW hz.oo (by rw[gO ie,decide_eq_false h1];simp) (by simp)) (B9.fin fun y hy=>absurd (QC kG h3 hy).1 V5))
     ·refine oS (ab (v':=.bool false) (bO rfl rfl) (congrArg Value.bool (decide_eq_false h3))) ?_;refine oA (oZ df ?_);refine cF (cR fun _ dq=>?_)
      by_cases h4:x.op=4
      ·refine oS (ab (v':=.bool true) (bO rfl rfl) (congrArg Value.bool (decide_eq_true h4))) ?_;refine oA (oZ dq ?_);refine cT (cR fun _ dG=>?_);refine oA (oZ dG (ah fun _ eb=>?_));refine cR fun _ dL=>?_;refine oA (oZ dL (ai ?_));refine lS (fun (k:Nat)(la:Option Addr)(lc:Nat)(V6:Hp)(l:cN)=>k≤((je (pi+1) gv).map Int.ofNat).length∧l=kz ((je (pi+1) gv).take k)∧aG mw 2 137 (.slice la l.length lc) l V6) (fun (k:Nat)(la:Option Addr)(lc:Nat)(V6:Hp)(l:cN)=>[(15,.slice la l.length lc),(16,.int .i64 k)]) [(2,_),(3,_),(4,_),(5,_),(12,_),(14,_)] (fun (k:Nat)(la:Option Addr)(lc:Nat)(V6:Hp)(l:cN)=>(b5,.cells [.slice ra re.length rc,.bool st,.bool en].toArray 212 (0,0))::(kb,.cells [.slice (eu ta tc 1 2) u.length (tc-1)].toArray 140 (0,0))::(bs,.cells [.slice Fz (rows++[(⟨ta,tc,((pi,pr)::u)⟩:Sl Pp)]).length FA].toArray 142 (0,0))::(bo,.cells [.slice oa fW.length oc].toArray 142 (0,0))::(bd,.cells [.bool dn].toArray 4 (0,0))::(KU++(V6++(Sw++(So++Pl))))) (fun (k:Nat)(la:Option Addr)(lc:Nat)(V6:Hp)(l:cN)=>((je (pi+1) gv).map Int.ofNat).length-k) 0 none 0 [] [] ⟨Nat.zero_le _,rfl,aG.nil⟩ aH aH aP ?_
       rintro k la lc V6 l ⟨hk,hl,hL⟩
       have o9:l.length=k:=by rw[hl];unfold kz;rw[List.length_map,List.length_take];rw[List.length_map] at hk;omega
       refine ah fun _ dR=>?_;refine cR fun _ dk=>?_;refine oM (oM ?_);refine oS sC ?_
       by_cases sB:k<((je (pi+1) gv).map Int.ofNat).length
       ·obtain⟨kk,Dx⟩:∃ kk,(je (pi+1) gv)[k]?=some kk:=⟨_,List.getElem?_eq_getElem (by rw[List.length_map] at sB;exact sB)⟩
        have T0:((je (pi+1) gv).map Int.ofNat)[k]?=some ((kk:Nat):Int):=by rw[List.getElem?_map,Dx];rfl
        refine oS (ab (v':=.bool true) (aF rfl rfl) (congrArg Value.bool (decide_eq_true (by omega)))) ?_;refine oZ dk ?_;refine gp dR (ah fun _ dE=>?_);refine ai (ae (oM (oM (oM ?_))));refine oS (au rfl rfl zo (by omega)) ?_;refine oS (az rfl ((Ht.aU aM).ld k 0 T0 rfl (by decide) (by omega))) ?_;refine oS (ab (v':=.agg (mw (kk,0)).toArray) (bG (cs:=[_,_]) (vs:=[_]) rfl rfl (.cons rfl rfl rfl rfl rfl .nil)) rfl) ?_;refine ct (E:=mw) (xs:=[((kk,0):Pp)]) (vs:=[_]) rfl rfl rfl rfl rfl (by decide) (by decide) fun aeg Ts Ko=>?_;refine bX hL (Ko.aU aM) rfl rfl rfl rfl (by simp;omega) (by simp;omega) rfl bh fun Tt Tu NK Ar=>?_;refine oA (ak (aq (xZ dE (ae (oM ?_)))));refine oS sD (oA (ak ?_));exact xI (k+1,Tt,Tu,NK,l++[(kk,0)]) ⟨by omega,by rw[hl,aY Dx];simp[kz],Ar⟩
       ·obtain rfl:k=((je (pi+1) gv).map Int.ofNat).length:=by omega
        rw[List.take_of_length_le (by rw[List.length_map];exact Nat.le_refl _)] at hl
        subst hl;refine oS (ab (v':=.bool false) (aF rfl rfl) (congrArg Value.bool (decide_eq_false (by omega)))) ?_;refine oZ dk ?_;refine cF ?_;refine ay ?_;refine ad (ad (ag (xZ eb ?_)));refine aK ([(b5,.cells [.slice ra re.length rc,.bool st,.bool en].toArray 212 (0,0)),(kb,.cells [.slice (eu ta tc 1 2) u.length (tc-1)].toArray 140 (0,0))]) (fun i=>false) ?_;refine eK 0 rfl (aD rfl (aI.aO (.own aV)) aS) ?_;refine eK 2 rfl (aD rfl (aI.aO (.own aV)) aS) ?_;refine eP 1 rfl sM ?_;refine eP 4 rfl sM ?_;refine eP 5 rfl sM ?_;refine eP 6 rfl sM (eO 3 rfl ?_);refine aX (qt la lc (kz (je (pi+1) gv)) (eu ta tc 1 2) (tc-1) u (by have h9:=tH gv (pi+1);unfold kz;simp only[List.length_map];omega)) rfl rfl rfl (by exact .nil) (fun w st=>⟨(hL.aU aM).out w st,(Io.rd.aU aM).out w st⟩) (fun anZ GN ⟨SA,SD,Yo,xq⟩=>?_)
        subst Yo;refine oX (eO 7 rfl ?_);refine aX (ih (62-(rows++[(⟨ta,tc,(pi,pr)::u⟩:Sl Pp)]).length) (by simp only[List.length_append,List.length_singleton];omega) SA SD (kz (je (pi+1) gv)++u) bs bo bd Fz FA (rows++[(⟨ta,tc,(pi,pr)::u⟩:Sl Pp)]) Sw oa oc fW So dn (Pl++GN) ((hz.add (s:=⟨ta,tc,(pi,pr)::u⟩) hold vo mX hW hz.oo (by rw[gO ie,decide_eq_false h1];simp) (by simp)).mono c4.ga) ((vn.own xq).mono c4.mG) (mX.op hS (S:=(st=true)) (E:=(en=true)) (.cat kG h4)) (Nat.le_refl _)) rfl rfl rfl ((aJ.bR bh (aJ.bR bh (aJ.bR bh (aJ.cy bh (aJ.cy bh (aJ.cy bh bh))))))) (fun w st=>⟨⟨(cq.old hw.1.1 hw.1.2).out w st,St.di st (by exact yn) hw.1.1 hw.1.2 (by decide)⟩,(xq.aU aM).out w st⟩) (fun an0 Xm Yp=>?_)
        obtain⟨Yq,Yr,OJ,Ys,Yt,Yu,T1,Yv,Yw,QD,rfl,Yx,Yy⟩:=Yp
        refine oX ?_;refine cw (by kernel_rfl) ?_;refine aq ?_;refine cM (Sub.refl _) (H':=fD bs bo bd Yq Yr OJ Ys Yt Yu T1 Yv Yw ((Pl++GN)++QD)) (by unfold fD;exact aP) ?_;exact fB rfl (.nil) (Hu (Pn:=GN++QD) (by simp only[List.append_assoc]) Yx ((B9.step Yy (.cat kG h4)).fin fun y hy=>by rw[Yz kG h4 hy];exact List.mem_append_right _ List.mem_cons_self))
      ·refine oS (ab (v':=.bool false) (bO rfl rfl) (congrArg Value.bool (decide_eq_false h4))) ?_;refine oA (oZ dq ?_);refine cF (cR fun _ dS=>?_)
       by_cases h5:x.op=5
       ·refine oS (ab (v':=.bool true) (bO rfl rfl) (congrArg Value.bool (decide_eq_true h5))) ?_;refine oA (oZ dS ?_);refine cT (cR fun _ dW=>?_);refine oA (oZ dW (ai ?_));refine cY (fun (k:Nat)(z:Oc)=>k≤((je (pi+1) gv).map Int.ofNat).length∧vm re n ks z.sa z.sc z.rows z.Ss z.oa z.oc z.fW z.So z.dn z.Pl∧(∃ Pn,z.Pl=Pl++Pn)∧oy re (st=true) (en=true) ((pi,pr)::u) (rows.map Sl.xs) (z.rows.map Sl.xs) (((je (pi+1) gv).take k).map fun k=>(k,0)::u)) (fun (k:Nat)(z:Oc)=>[(17,.int .i64 k)]) [(2,_),(3,_),(4,_),(5,_),(12,_),(14,_)] (fun (k:Nat)(z:Oc)=>(b5,.cells [.slice ra re.length rc,.bool st,.bool en].toArray 212 (0,0))::(kb,.cells [.slice (eu ta tc 1 2) u.length (tc-1)].toArray 140 (0,0))::(bs,.cells [.slice z.sa z.rows.length z.sc].toArray 142 (0,0))::(bo,.cells [.slice z.oa z.fW.length z.oc].toArray 142 (0,0))::(bd,.cells [.bool z.dn].toArray 4 (0,0))::(KU++(z.Ss++(z.So++z.Pl)))) (fun (k:Nat)(z:Oc)=>((je (pi+1) gv).map Int.ofNat).length-k) 0 ⟨Fz,FA,rows++[⟨ta,tc,((pi,pr)::u)⟩],Sw,oa,oc,fW,So,dn,Pl,[]⟩ ⟨Nat.zero_le _,hz.add (s:=⟨ta,tc,(pi,pr)::u⟩) hold vo mX hW hz.oo (by rw[gO ie,decide_eq_false h1];simp) (by simp),⟨[],(List.append_nil _).symm⟩,B9⟩ aH aH aP ?_
        rintro k ⟨sa5,sc5,rw5,Ss5,oa5,oc5,or5,So5,dn5,Pq,ys5⟩ ⟨hk,hz5,⟨Pn5,xL⟩,QE⟩
        dsimp only at hz5 xL QE
        dsimp only
        have NI:=QE.more
        simp only[List.length_map] at NI
        have OK:vn ⟨eu ta tc 1 2,tc-1,u⟩ Pq:=Io.mono (by rw[xL];exact c4.ga)
        refine ah fun _ ee=>?_;refine cR fun _ eh=>?_;refine oM (oM ?_);refine oS sC ?_
        by_cases sB:k<((je (pi+1) gv).map Int.ofNat).length
        ·obtain⟨kk,Dx⟩:∃ kk,(je (pi+1) gv)[k]?=some kk:=⟨_,List.getElem?_eq_getElem (by rw[List.length_map] at sB;exact sB)⟩
         have T0:((je (pi+1) gv).map Int.ofNat)[k]?=some ((kk:Nat):Int):=by rw[List.getElem?_map,Dx];rfl
         refine oS (ab (v':=.bool true) (aF rfl rfl) (congrArg Value.bool (decide_eq_true (by omega)))) ?_;refine oZ eh ?_;refine gp ee (ah fun _ eD=>?_);refine ai ?_;refine aK ((b5,.cells [.slice ra re.length rc,.bool st,.bool en].toArray 212 (0,0))::(kb,.cells [.slice (eu ta tc 1 2) u.length (tc-1)].toArray 140 (0,0))::KU) (fun i=>false) ?_;refine eK 0 rfl (aD rfl (aI.aO (.own aV)) aS) ?_;refine eP 1 rfl sM ?_;refine eP 2 rfl sM ?_;refine eP 3 rfl (au rfl rfl zo (by omega)) ?_;refine eK 4 rfl (az rfl ((Ht.aU aM).ld k 0 T0 rfl (by decide) (by omega))) ?_;refine eP 5 rfl (ab (v':=.agg (mw (kk,0)).toArray) (bG (cs:=[_,_]) (vs:=[_]) rfl rfl (.cons rfl rfl rfl rfl rfl .nil)) rfl) ?_;refine eK 7 rfl (aD rfl (aI.aO (.own aV)) aS) ?_;refine eP 9 rfl sM ?_;refine eP 10 rfl sM ?_;refine eP 11 rfl sM (eO 6 rfl ?_);refine ct (E:=mw) (xs:=[((kk,0):Pp)]) (vs:=[_]) rfl rfl rfl rfl rfl (by decide) (by decide) fun aeY YA KV=>?_;refine oX (eO 8 rfl ?_);refine aX (qt (some ⟨aeY,0,none⟩) 1 ([((kk,0):Pp)]) (eu ta tc 1 2) (tc-1) u (by simp;omega)) rfl rfl rfl (by exact .nil) (fun w st=>⟨(KV.aU aM).out w st,(OK.rd.aU aM).out w st⟩) (fun an2 T2 ⟨aeZ,ae0,YB,QG⟩=>?_);subst YB
         refine oX (eO 12 rfl ?_);refine aX (ih (62-rw5.length) (by omega) aeZ ae0 (((kk,0)::u)) bs bo bd sa5 sc5 rw5 Ss5 oa5 oc5 or5 So5 dn5 (Pq++T2) (hz5.mono c4.ga) ((vn.own QG).mono c4.mG) (mX.op hS (S:=(st=true)) (E:=(en=true)) (.alt kG h5 (List.mem_of_getElem? Dx))) (Nat.le_refl _)) rfl rfl rfl ((aJ.bR bh (aJ.bR bh (aJ.bR bh (aJ.cy bh (aJ.cy bh (aJ.cy bh bh))))))) (fun w st=>⟨⟨(cq.old hw.1.1 hw.1.2).out w st,St.di st (by exact yn) hw.1.1 hw.1.2 (by decide)⟩,(QG.aU aM).out w st⟩) (fun an3 an4 YC=>?_)
         obtain⟨YD,YE,OL,YF,YG,YH,T3,YI,YJ,QH,rfl,YK,YL⟩:=YC
         refine oX ?_;refine cw (by kernel_rfl) ?_;refine aq (xZ eD (ae (oM ?_)));refine oS sD (oA (ak ?_));exact xI (k+1,⟨YD,YE,OL,YF,YG,YH,T3,YI,YJ,(Pq++T2)++QH,[]⟩) ⟨by omega,YK,⟨Pn5++(T2++QH),by rw[xL];simp only[List.append_assoc]⟩,by rw[aY Dx,List.map_append];exact QE.step YL (.alt kG h5 (List.mem_of_getElem? Dx))⟩
        ·obtain rfl:k=((je (pi+1) gv).map Int.ofNat).length:=by omega
         rw[List.take_of_length_le (by rw[List.length_map];exact Nat.le_refl _)] at QE
         refine oS (ab (v':=.bool false) (aF rfl rfl) (congrArg Value.bool (decide_eq_false (by omega)))) ?_;refine oZ eh ?_;refine cF ?_;refine ay ?_;refine ad (ad (ag (aq ?_)));refine cM (Sub.refl _) (H':=fD bs bo bd sa5 sc5 rw5 Ss5 oa5 oc5 or5 So5 dn5 Pq) (by unfold fD;exact aP) ?_;exact fB rfl (.nil) (Hu xL hz5 (QE.fin fun y hy=>YM kG h5 hy))
       ·refine oS (ab (v':=.bool false) (bO rfl rfl) (congrArg Value.bool (decide_eq_false h5))) ?_;refine oA (oZ dS ?_);refine cF (cR fun _ dN=>?_)
        by_cases h7:x.op=7
        ·have o6:((je (pi+1) gv).map Int.ofNat)[0]?=some ((pi+1:Nat):Int):=by obtain⟨y,js,rfl⟩:=Mc.eN kG.wf (by omega);rfl
         have ae1:0<gv.num:=by obtain⟨y,js,rfl⟩:=Mc.eN kG.wf (by omega);simp[F.num]
         refine oS (ab (v':=.bool true) (bO rfl rfl) (congrArg Value.bool (decide_eq_true h7))) ?_;refine oA (oZ dN ?_);refine cT ?_;refine aK ((b5,.cells [.slice ra re.length rc,.bool st,.bool en].toArray 212 (0,0))::(kb,.cells [.slice (eu ta tc 1 2) u.length (tc-1)].toArray 140 (0,0))::KU) (fun i=>false) ?_;refine eK 0 rfl (aD rfl (aI.aO (.own aV)) aS) ?_;refine eP 1 rfl sM ?_;refine eP 2 rfl (au rfl rfl zo (by omega)) ?_;refine eK 3 rfl (az rfl ((Ht.aU aM).ld 0 0 o6 rfl (by decide) (by omega))) ?_;refine eP 4 rfl (ab (v':=.agg (mw ((pi+1),0)).toArray) (bG (cs:=[_,_]) (vs:=[_]) rfl rfl (.cons rfl rfl rfl rfl rfl .nil)) rfl) ?_;refine eK 6 rfl (aD rfl (aI.aO (.own aV)) aS) ?_;refine eP 8 rfl sM ?_;refine eP 9 rfl sM ?_;refine eP 10 rfl sM (eO 5 rfl ?_);refine ct (E:=mw) (xs:=[((pi+1,0):Pp)]) (vs:=[_]) rfl rfl rfl rfl rfl (by decide) (by decide) fun ae2 YN KW=>?_;refine oX (eO 7 rfl ?_);refine aX (qt (some ⟨ae2,0,none⟩) 1 ([((pi+1,0):Pp)]) (eu ta tc 1 2) (tc-1) u (by simp;omega)) rfl rfl rfl (by exact .nil) (fun w st=>⟨(KW.aU aM).out w st,(Io.rd.aU aM).out w st⟩) (fun an5 yS ⟨CN,CO,YO,rX⟩=>?_);subst YO
         refine oX (eO 11 rfl ?_);refine aX (ih (62-(rows++[(⟨ta,tc,(pi,pr)::u⟩:Sl Pp)]).length) (by simp only[List.length_append,List.length_singleton];omega) CN CO (((pi+1,0)::u)) bs bo bd Fz FA (rows++[(⟨ta,tc,(pi,pr)::u⟩:Sl Pp)]) Sw oa oc fW So dn (Pl++yS) ((hz.add (s:=⟨ta,tc,(pi,pr)::u⟩) hold vo mX hW hz.oo (by rw[gO ie,decide_eq_false h1];simp) (by simp)).mono c4.ga) ((vn.own rX).mono c4.mG) (mX.op hS (S:=(st=true)) (E:=(en=true)) (.V7 kG h7)) (Nat.le_refl _)) rfl rfl rfl ((aJ.bR bh (aJ.bR bh (aJ.bR bh (aJ.cy bh (aJ.cy bh (aJ.cy bh bh))))))) (fun w st=>⟨⟨(cq.old hw.1.1 hw.1.2).out w st,St.di st (by exact yn) hw.1.1 hw.1.2 (by decide)⟩,(rX.aU aM).out w st⟩) (fun an6 adz YP=>?_)
         obtain⟨YQ,YR,OM,YS,YT,YU,T4,YV,YW,QI,rfl,YX,YY⟩:=YP
         refine oX ?_;refine cw (by kernel_rfl) ?_;refine aq ?_;refine cM (Sub.refl _) (H':=fD bs bo bd YQ YR OM YS YT YU T4 YV YW ((Pl++yS)++QI)) (by unfold fD;exact aP) ?_;exact fB rfl (.nil) (Hu (Pn:=yS++QI) (by simp only[List.append_assoc]) YX ((B9.step YY (.V7 kG h7)).fin fun y hy=>by rw[YZ kG h7 hy];exact List.mem_append_right _ List.mem_cons_self))
        ·refine oS (ab (v':=.bool false) (bO rfl rfl) (congrArg Value.bool (decide_eq_false h7))) ?_;refine oA (oZ dN ?_);refine cF (cR fun _ e6=>?_)
         by_cases h6:x.op=6
         ·have o6:((je (pi+1) gv).map Int.ofNat)[0]?=some ((pi+1:Nat):Int):=by obtain⟨y,js,rfl⟩:=Mc.eN kG.wf (by omega);rfl
          have ae1:0<gv.num:=by obtain⟨y,js,rfl⟩:=Mc.eN kG.wf (by omega);simp[F.num]
          have h9:=qu kG.wf.1 h6
          refine oS (ab (v':=.bool true) (bO rfl rfl) (congrArg Value.bool (decide_eq_true h6))) ?_;refine oA (oZ e6 ?_);refine cT ?_;refine fU (ι:=Oc) (fun g=>vm re n ks g.sa g.sc g.rows g.Ss g.oa g.oc g.fW g.So g.dn g.Pl∧(∃ Pn,g.Pl=Pl++Pn)∧oy re (st=true) (en=true) ((pi,pr)::u) (rows.map Sl.xs) (g.rows.map Sl.xs) g.ys∧(x.mn≤(pr:Int)→u∈g.ys)) (fun g=>[]) [(2,_),(3,_),(4,_),(5,_),(11,_),(12,_),(13,_),(14,_)] (fun g=>(b5,.cells [.slice ra re.length rc,.bool st,.bool en].toArray 212 (0,0))::(M9,.cells (mw (pi,pr)).toArray 137 (0,0))::(kb,.cells [.slice (eu ta tc 1 2) u.length (tc-1)].toArray 140 (0,0))::(rT,.cells (En x).toArray 42 (0,0))::(bs,.cells [.slice g.sa g.rows.length g.sc].toArray 142 (0,0))::(bo,.cells [.slice g.oa g.fW.length g.oc].toArray 142 (0,0))::(bd,.cells [.bool g.dn].toArray 4 (0,0))::(KU++(g.Ss++(g.So++g.Pl)))) aH ?_ ?_
          ·rintro⟨Y0,Y1,T5,Y2,Y3,Y4,Y5,Y6,Y7,Pq,ys6⟩ ⟨hz6,⟨Pn6,xL⟩,Y8,hys⟩
           dsimp only at hz6 xL Y8 hys
           dsimp only
           have NI:=Y8.more
           simp only[List.length_map] at NI
           have OK:vn ⟨eu ta tc 1 2,tc-1,u⟩ Pq:=Io.mono (by rw[xL];exact c4.ga)
           refine cR fun _ fF=>?_;refine oS sF ?_;refine oS sL ?_
           by_cases kF:x.mx<0
           ·refine oS (ab (v':=.bool true) (aF rfl rfl) (congrArg Value.bool (decide_eq_true kF))) ?_;refine oM ?_;refine oN ?_;refine oN ?_;refine oN ?_;refine oN ?_;refine oN ?_;refine oS sT (oZ fF ?_);refine cT (cR fun _ fx=>?_);refine oS sF ?_;refine oS sL ?_;refine oS sD (oA (oZ fx ?_));refine fU (ι:=Int) (fun g=>g=((qv x pr:Nat):Int)∧(x.mx<0∨(pr:Int)<x.mx)) (fun g=>[(18,.int .i64 g)]) [(2,_),(3,_),(4,_),(5,_),(11,_),(12,_),(14,_)] (fun g=>(b5,.cells [.slice ra re.length rc,.bool st,.bool en].toArray 212 (0,0))::(M9,.cells (mw (pi,pr)).toArray 137 (0,0))::(kb,.cells [.slice (eu ta tc 1 2) u.length (tc-1)].toArray 140 (0,0))::(rT,.cells (En x).toArray 42 (0,0))::(bs,.cells [.slice Y0 T5.length Y1].toArray 142 (0,0))::(bo,.cells [.slice Y3 Y5.length Y4].toArray 142 (0,0))::(bd,.cells [.bool Y7].toArray 4 (0,0))::(KU++(Y2++(Y6++Pq)))) aH ?_ ?_
            ·rintro g ⟨hg,KX⟩
             subst hg;refine aK ((b5,.cells [.slice ra re.length rc,.bool st,.bool en].toArray 212 (0,0))::(M9,.cells (mw (pi,pr)).toArray 137 (0,0))::(kb,.cells [.slice (eu ta tc 1 2) u.length (tc-1)].toArray 140 (0,0))::KU) (fun i=>false) ?_;refine eK 0 rfl (aD rfl (aI.aO (.own aV)) aS) ?_;refine eP 1 rfl sM ?_;refine eP 2 rfl (au rfl rfl zo (by omega)) ?_;refine eK 3 rfl (az rfl ((Ht.aU aM).ld 0 0 o6 rfl (by decide) (by omega))) ?_;refine eP 4 rfl (ab (v':=.agg (mw ((pi+1),0)).toArray) (bG (cs:=[_,_]) (vs:=[_]) rfl rfl (.cons rfl rfl rfl rfl rfl .nil)) rfl) ?_;refine eP 5 rfl sF ?_;refine eK 6 rfl sL ?_;refine eP 7 rfl sM ?_;refine eP 8 rfl (ab (v':=.agg (mw (pi,qv x pr)).toArray) (bG (cs:=[_,_]) (vs:=[_,_]) rfl rfl (.cons rfl rfl rfl rfl rfl (.cons rfl rfl rfl rfl rfl .nil))) rfl) ?_;refine eK 10 rfl (aD rfl (aI.aO (.own aV)) aS) ?_;refine eP 12 rfl sM ?_;refine eP 13 rfl sM ?_;refine eP 14 rfl sM (eO 9 rfl ?_);refine ct (E:=mw) (xs:=[((pi+1,0):Pp),(pi,qv x pr)]) (vs:=[_,_]) rfl rfl rfl rfl rfl (by decide) (by decide) fun T6 ae3 KY=>?_;refine oX (eO 11 rfl ?_);refine aX (qt (some ⟨T6,0,none⟩) 2 ([((pi+1,0):Pp),(pi,qv x pr)]) (eu ta tc 1 2) (tc-1) u (by simp;omega)) rfl rfl rfl (by exact .nil) (fun w st=>⟨(KY.aU aM).out w st,(OK.rd.aU aM).out w st⟩) (fun ae4 Dy ⟨T7,T8,KZ,Bb⟩=>?_);subst KZ
             refine oX (eO 15 rfl ?_);refine aX (ih (62-T5.length) (by omega) T7 T8 (((pi+1,0)::(pi,qv x pr)::u)) bs bo bd Y0 Y1 T5 Y2 Y3 Y4 Y5 Y6 Y7 (Pq++Dy) (hz6.mono c4.ga) ((vn.own Bb).mono c4.mG) (mX.op hS (S:=(st=true)) (E:=(en=true)) (.more kG h6 KX)) (Nat.le_refl _)) rfl rfl rfl ((aJ.bR bh (aJ.bR bh (aJ.bR bh (aJ.cy bh (aJ.cy bh (aJ.cy bh bh))))))) (fun w st=>⟨⟨(cq.old hw.1.1 hw.1.2).out w st,St.di st (by exact yn) hw.1.1 hw.1.2 (by decide)⟩,(Bb.aU aM).out w st⟩) (fun ae5 ae6 K1=>?_)
             obtain⟨K2,K3,zz,K4,K5,K6,Dz,K7,K8,Bc,rfl,K9,La⟩:=K1
             refine oX ?_;refine cw (by kernel_rfl) ?_;refine aq ?_;refine cM (Sub.refl _) (H':=fD bs bo bd K2 K3 zz K4 K5 K6 Dz K7 K8 ((Pq++Dy)++Bc)) (by unfold fD;exact aP) ?_;exact fB rfl (.nil) (Hu (Pn:=Pn6++(Dy++Bc)) (by rw[xL];simp only[List.append_assoc]) K9 ((Y8.step La (.more kG h6 KX)).fin fun y hy=>by rcases Lb kG h6 hy with ⟨g1,g2⟩|⟨g1,g2⟩;(· rw[g2];exact List.mem_append_left _ (hys g1));(· rw[g2];exact List.mem_append_right _ List.mem_cons_self)))
            ·intro _ T9
             refine cR fun _ gh=>?_;refine oS sF ?_;refine oS sL ?_
             by_cases Lc:x.mx<0
             ·refine oS (ab (v':=.bool true) (aF rfl rfl) (congrArg Value.bool (decide_eq_true Lc))) ?_;refine oM ?_;refine oY (oM ?_);refine oY ?_;refine oS sF ?_;refine oY ?_;refine oS sL ?_;refine oY ?_
              by_cases rb:x.mn<(pr:Int)+1
              ·refine oS (ab (v':=.bool true) (eX rfl rfl) (congrArg Value.bool (decide_eq_true rb))) ?_;refine oS sT (oZ gh ?_);refine cT (ae ?_);refine oS sF ?_;refine oS sL (oA (ak ?_));exact av (T9 x.mn _ _ ⟨by unfold qv;split <;> omega,by omega⟩ aH aH aP)
              ·refine oS (ab (v':=.bool false) (eX rfl rfl) (congrArg Value.bool (decide_eq_false rb))) ?_;refine oS sT (oZ gh ?_);refine cF (ax ?_);exact av (T9 ((pr:Int)+1) _ _ ⟨by unfold qv;split <;> omega,by omega⟩ aH aH aP)
             ·refine oS (ab (v':=.bool false) (aF rfl rfl) (congrArg Value.bool (decide_eq_false Lc))) ?_;refine oM ?_;refine oN ?_;refine oN ?_;refine oN ?_;refine oN ?_;refine oS sP (oZ gh ?_);refine cF (ax ?_);exact av (T9 ((pr:Int)+1) _ _ ⟨by unfold qv;split <;> omega,by omega⟩ aH aH aP)
           ·refine oS (ab (v':=.bool false) (aF rfl rfl) (congrArg Value.bool (decide_eq_false kF))) ?_;refine oM ?_;refine oY ?_;refine oS sF ?_;refine oY ?_;refine oS sL ?_;refine oY ?_;refine oS sF ?_;refine oY ?_;refine oS sL ?_;refine oY ?_
            by_cases xM:(pr:Int)<x.mx
            ·refine oS (ab (v':=.bool true) (aF rfl rfl) (congrArg Value.bool (decide_eq_true xM))) ?_;refine oS sP (oZ fF ?_);refine cT (cR fun _ fZ=>?_);refine oS sF ?_;refine oS sL ?_;refine oS sD (oA (oZ fZ ?_));refine fU (ι:=Int) (fun g=>g=((qv x pr:Nat):Int)∧(x.mx<0∨(pr:Int)<x.mx)) (fun g=>[(18,.int .i64 g)]) [(2,_),(3,_),(4,_),(5,_),(11,_),(12,_),(14,_)] (fun g=>(b5,.cells [.slice ra re.length rc,.bool st,.bool en].toArray 212 (0,0))::(M9,.cells (mw (pi,pr)).toArray 137 (0,0))::(kb,.cells [.slice (eu ta tc 1 2) u.length (tc-1)].toArray 140 (0,0))::(rT,.cells (En x).toArray 42 (0,0))::(bs,.cells [.slice Y0 T5.length Y1].toArray 142 (0,0))::(bo,.cells [.slice Y3 Y5.length Y4].toArray 142 (0,0))::(bd,.cells [.bool Y7].toArray 4 (0,0))::(KU++(Y2++(Y6++Pq)))) aH ?_ ?_
             ·rintro g ⟨hg,KX⟩
              subst hg;refine aK ((b5,.cells [.slice ra re.length rc,.bool st,.bool en].toArray 212 (0,0))::(M9,.cells (mw (pi,pr)).toArray 137 (0,0))::(kb,.cells [.slice (eu ta tc 1 2) u.length (tc-1)].toArray 140 (0,0))::KU) (fun i=>false) ?_;refine eK 0 rfl (aD rfl (aI.aO (.own aV)) aS) ?_;refine eP 1 rfl sM ?_;refine eP 2 rfl (au rfl rfl zo (by omega)) ?_;refine eK 3 rfl (az rfl ((Ht.aU aM).ld 0 0 o6 rfl (by decide) (by omega))) ?_;refine eP 4 rfl (ab (v':=.agg (mw ((pi+1),0)).toArray) (bG (cs:=[_,_]) (vs:=[_]) rfl rfl (.cons rfl rfl rfl rfl rfl .nil)) rfl) ?_;refine eP 5 rfl sF ?_;refine eK 6 rfl sL ?_;refine eP 7 rfl sM ?_;refine eP 8 rfl (ab (v':=.agg (mw (pi,qv x pr)).toArray) (bG (cs:=[_,_]) (vs:=[_,_]) rfl rfl (.cons rfl rfl rfl rfl rfl (.cons rfl rfl rfl rfl rfl .nil))) rfl) ?_;refine eK 10 rfl (aD rfl (aI.aO (.own aV)) aS) ?_;refine eP 12 rfl sM ?_;refine eP 13 rfl sM ?_;refine eP 14 rfl sM (eO 9 rfl ?_);refine ct (E:=mw) (xs:=[((pi+1,0):Pp),(pi,qv x pr)]) (vs:=[_,_]) rfl rfl rfl rfl rfl (by decide) (by decide) fun T6 ae3 KY=>?_;refine oX (eO 11 rfl ?_);refine aX (qt (some ⟨T6,0,none⟩) 2 ([((pi+1,0):Pp),(pi,qv x pr)]) (eu ta tc 1 2) (tc-1) u (by simp;omega)) rfl rfl rfl (by exact .nil) (fun w st=>⟨(KY.aU aM).out w st,(OK.rd.aU aM).out w st⟩) (fun ae4 Dy ⟨T7,T8,KZ,Bb⟩=>?_);subst KZ
              refine oX (eO 15 rfl ?_);refine aX (ih (62-T5.length) (by omega) T7 T8 (((pi+1,0)::(pi,qv x pr)::u)) bs bo bd Y0 Y1 T5 Y2 Y3 Y4 Y5 Y6 Y7 (Pq++Dy) (hz6.mono c4.ga) ((vn.own Bb).mono c4.mG) (mX.op hS (S:=(st=true)) (E:=(en=true)) (.more kG h6 KX)) (Nat.le_refl _)) rfl rfl rfl ((aJ.bR bh (aJ.bR bh (aJ.bR bh (aJ.cy bh (aJ.cy bh (aJ.cy bh bh))))))) (fun w st=>⟨⟨(cq.old hw.1.1 hw.1.2).out w st,St.di st (by exact yn) hw.1.1 hw.1.2 (by decide)⟩,(Bb.aU aM).out w st⟩) (fun ae5 ae6 K1=>?_)
              obtain⟨K2,K3,zz,K4,K5,K6,Dz,K7,K8,Bc,rfl,K9,La⟩:=K1
              refine oX ?_;refine cw (by kernel_rfl) ?_;refine aq ?_;refine cM (Sub.refl _) (H':=fD bs bo bd K2 K3 zz K4 K5 K6 Dz K7 K8 ((Pq++Dy)++Bc)) (by unfold fD;exact aP) ?_;exact fB rfl (.nil) (Hu (Pn:=Pn6++(Dy++Bc)) (by rw[xL];simp only[List.append_assoc]) K9 ((Y8.step La (.more kG h6 KX)).fin fun y hy=>by rcases Lb kG h6 hy with ⟨g1,g2⟩|⟨g1,g2⟩;(· rw[g2];exact List.mem_append_left _ (hys g1));(· rw[g2];exact List.mem_append_right _ List.mem_cons_self)))
             ·intro _ Ua
              refine cR fun _ gA=>?_;refine oS sF ?_;refine oS sL ?_
              by_cases Lc:x.mx<0
              ·refine oS (ab (v':=.bool true) (aF rfl rfl) (congrArg Value.bool (decide_eq_true Lc))) ?_;refine oM ?_;refine oY (oM ?_);refine oY ?_;refine oS sF ?_;refine oY ?_;refine oS sL ?_;refine oY ?_
               by_cases rb:x.mn<(pr:Int)+1
               ·refine oS (ab (v':=.bool true) (eX rfl rfl) (congrArg Value.bool (decide_eq_true rb))) ?_;refine oS sT (oZ gA ?_);refine cT (ae ?_);refine oS sF ?_;refine oS sL (oA (ak ?_));exact av (Ua x.mn _ _ ⟨by unfold qv;split <;> omega,by omega⟩ aH aH aP)
               ·refine oS (ab (v':=.bool false) (eX rfl rfl) (congrArg Value.bool (decide_eq_false rb))) ?_;refine oS sT (oZ gA ?_);refine cF (ax ?_);exact av (Ua ((pr:Int)+1) _ _ ⟨by unfold qv;split <;> omega,by omega⟩ aH aH aP)
              ·refine oS (ab (v':=.bool false) (aF rfl rfl) (congrArg Value.bool (decide_eq_false Lc))) ?_;refine oM ?_;refine oN ?_;refine oN ?_;refine oN ?_;refine oN ?_;refine oS sP (oZ gA ?_);refine cF (ax ?_);exact av (Ua ((pr:Int)+1) _ _ ⟨by unfold qv;split <;> omega,by omega⟩ aH aH aP)
            ·refine oS (ab (v':=.bool false) (aF rfl rfl) (congrArg Value.bool (decide_eq_false xM))) ?_;refine oS sP (oZ fF ?_);refine cF (ax (aq ?_));refine cM (Sub.refl _) (H':=fD bs bo bd Y0 Y1 T5 Y2 Y3 Y4 Y5 Y6 Y7 Pq) (by unfold fD;exact aP) ?_;exact fB rfl (.nil) (Hu xL hz6 (Y8.fin fun y hy=>by rcases Lb kG h6 hy with ⟨g1,g2⟩|⟨g1,g2⟩;(· rw[g2];exact hys g1);(· exact absurd g1 (by omega))))
          ·intro _ Y9
           refine cR fun _ iX=>?_;refine oS sF ?_;refine oS sL ?_;refine oS sF ?_;refine oS sL ?_
           by_cases KO:x.mn≤(pr:Int)
           ·refine oS (ab (v':=.bool true) (iH rfl rfl) (congrArg Value.bool (decide_eq_true KO))) ?_;refine oZ iX ?_;refine cT (ae ?_);refine oS (aD rfl (aI.aO (.own aV)) aS) ?_;refine oS (aD rfl (aI.aO (.own aV)) aS) ?_;refine oM (oM (oM ?_));refine aX (ih (62-(rows++[(⟨ta,tc,(pi,pr)::u⟩:Sl Pp)]).length) (by simp only[List.length_append,List.length_singleton];omega) (eu ta tc 1 2) (tc-1) (u) bs bo bd Fz FA (rows++[(⟨ta,tc,(pi,pr)::u⟩:Sl Pp)]) Sw oa oc fW So dn Pl (hz.add (s:=⟨ta,tc,(pi,pr)::u⟩) hold vo mX hW hz.oo (by rw[gO ie,decide_eq_false h1];simp) (by simp)) (Io) (mX.op hS (S:=(st=true)) (E:=(en=true)) (.out kG h6 KO)) (Nat.le_refl _)) rfl rfl rfl ((aJ.bR bh (aJ.bR bh (aJ.bR bh (aJ.cy bh (aJ.cy bh bh)))))) (fun w st=>⟨⟨(cq.old hw.1.1 hw.1.2).out w st,St.di st (by exact yn) hw.1.1 hw.1.2 (by decide)⟩,((Io).rd.aU aM).out w st⟩) (fun an7 an8 Za=>?_)
            obtain⟨Zb,Zc,ON,Zd,Ze,Zf,Ub,Zg,Zh,QJ,rfl,Zi,Zj⟩:=Za
            refine ak ?_;exact av (Y9 ⟨Zb,Zc,ON,Zd,Ze,Zf,Ub,Zg,Zh,Pl++QJ,[]++[u]⟩ _ _ ⟨Zi,⟨QJ,rfl⟩,B9.step Zj (.out kG h6 KO),fun _=>List.mem_append_right _ List.mem_cons_self⟩ aH aH aP)
           ·refine oS (ab (v':=.bool false) (iH rfl rfl) (congrArg Value.bool (decide_eq_false KO))) ?_;refine oZ iX ?_;refine cF (ax ?_);exact av (Y9 ⟨Fz,FA,rows++[⟨ta,tc,((pi,pr)::u)⟩],Sw,oa,oc,fW,So,dn,Pl,[]⟩ _ _ ⟨hz.add (s:=⟨ta,tc,(pi,pr)::u⟩) hold vo mX hW hz.oo (by rw[gO ie,decide_eq_false h1];simp) (by simp),⟨[],(List.append_nil _).symm⟩,B9,fun h=>absurd h KO⟩ aH aH aP)
         ·refine oS (ab (v':=.bool false) (bO rfl rfl) (congrArg Value.bool (decide_eq_false h6))) ?_;refine oA (oZ e6 ?_);refine cF (ax (aq ?_));refine cM (Sub.refl _) (H':=fD bs bo bd Fz FA (rows++[(⟨ta,tc,(pi,pr)::u⟩:Sl Pp)]) Sw oa oc fW So dn Pl) (by unfold fD;exact aP) ?_;exact fB rfl (.nil) (Hq (hz.add (s:=⟨ta,tc,(pi,pr)::u⟩) hold vo mX hW hz.oo (by rw[gO ie,decide_eq_false h1];simp) (by simp)) (B9.fin fun y hy=>(QA kG h2 h3 h4 h5 h7 h6 hy).elim))
theorem vr (ra:Option Addr)(rc:Nat)(re:List Nd)(ey:∀ x∈re,-128≤x.op∧x.op<128)(iC:bz re=true)(n:Nd)(ks:F)(hS:Mc.iR re n ks)(mS:(F.nd n ks .nil).weight≤20)(p5:re.length<100000)(st en:Bool):∀ N,OpC ra rc re n ks st en N:=by
 intro N
 induction N using Nat.strongRecOn with
 | ind N ih=>
   intro ta tc tx bs bo bd sa sc rows Ss oa oc fW So dn Pl hz vo mX hm
   exact KR ra rc re ey iC n ks hS mS p5 st en N ih ta tc tx bs bo bd sa sc rows Ss oa oc fW So dn Pl hz vo mX hm
end Go.Proofs.YtmompllplidphaaGreatDoor
