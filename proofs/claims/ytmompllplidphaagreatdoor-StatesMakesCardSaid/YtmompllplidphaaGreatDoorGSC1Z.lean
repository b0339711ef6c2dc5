/- Part of the proofs over this seat: see the text that holds the theorem. Conditions: each theorem bears its own. -/
import Derived.Test.YtmompllplidphaaGreatDoorHTZ
import Derived.Test.YtmompllplidphaaGreatDoorHlB
import Derived.Test.YtmompllplidphaaGreatDoorGB1Z
import Derived.Test.YtmompllplidphaaGreatDoorMC9Z
import Derived.Test.YtmompllplidphaaGreatDoorGSW4Z
namespace Go.Proofs.YtmompllplidphaaGreatDoor
open Go Go.HL Go.Proofs Go.HL.Kl
theorem s4 (c:Cl)(x:Nat)(hx:x<256):HL.Fn Tryz.prog 119 [.agg (Ec c).toArray,.int .u8 x] (fun _=>True) [] (fun v _=>v = .bool (c.getLsbD x)):=by
 refine aW Tryz.func119 rfl rfl rfl fun w0 hw=>?_;refine cR fun _ bI=>?_;refine cB rfl rfl rfl fun b2=>?_;refine oA (oZ bI (cR fun _ bJ=>?_));refine oM ?_;refine oS (ab (v':=.int .u8 ((x / 64:Nat):Int)) (Ah rfl rfl (by decide)) (congrArg _ (IK hx))) ?_;refine oS (dP rfl rfl (by omega)) ?_;refine oS (az rfl ((aI.own aV).iU (j:=x / 64) (lF _ (by omega)) (by omega))) ?_;refine oM ?_;refine oS (ab (v':=.int .u8 ((x % 64:Nat):Int)) (jZ rfl rfl (by decide)) (congrArg _ (PZ hx))) ?_;refine oS (j6 rfl rfl (by omega)) ?_;refine oS (gW rfl rfl) ?_;refine oS (ab (v':=.bool (c.getLsbD x)) (bO rfl rfl) (congrArg Value.bool (hasB c hx))) ?_;refine oA (oZ bJ (aA ?_));refine ?_;exact xR rfl rfl (rfl)
theorem WV (a b:Cl):HL.Fn Tryz.prog 122 [.agg (Ec a).toArray,.agg (Ec b).toArray] (fun _=>True) [] (fun v _=>v = .agg (Ec (a ||| b)).toArray):=by
 refine aW Tryz.func122 rfl rfl rfl fun w0 hw=>?_
 rw[← NR a b]
 refine cR fun _ bI=>?_;refine cB rfl rfl rfl fun b2=>?_;refine cB rfl rfl rfl fun b3=>?_;refine aB (l:=Ec 0#256) (by rw[bk];rfl) rfl fun b4=>?_;refine oZ bI (ah fun _ bJ=>?_);refine cR fun _ bK=>?_;refine oM (oZ bK (ai ?_));refine aL (fun (i:Nat)=>i≤4) (fun (i:Nat)=>[(6,.int .i64 i)]) [(2,_),(3,_),(4,_)] (fun (i:Nat)=>[(b4,.cells (Ec 0#256).toArray 39 (0,0)),(b3,.cells (Ec b).toArray 39 (0,0)),(b2,.cells (Ec (uu (fun i w=>w ||| wd b i) a i)).toArray 39 (0,0))]) (fun (i:Nat)=>4-i) 0 (by omega) aH aH aP ?_
 rintro i hI
 refine cR fun _ bU=>?_;refine oS (aF rfl rfl) ?_;refine oZ bU (ah fun _ bT=>?_);refine cx rfl (fun cH=>?_) (fun cH=>?_)
 · skip
   refine ax (xZ bT (ah fun _ bZ=>?_));refine ai (cR fun _ cj=>?_);refine oM (oA (oZ cj ?_));refine uv 8 (by kernel_rfl) ?_;refine .op rfl (ba rfl) ?_;refine .op rfl (dP rfl rfl (by omega)) ?_;refine .op rfl (az rfl ((aI.own aV).iU (j:=i) (lF _ (by omega)) (by omega))) ?_;refine .op rfl (ba rfl) ?_;refine .op rfl (dP rfl rfl (by omega)) ?_;refine .op rfl (az rfl ((aI.own aV).iU (j:=i) (lF _ (by omega)) (by omega))) ?_;refine .op rfl (ab (IM rfl rfl) (Rn (wd _ i) (wd b i))) ?_;refine .op rfl (dP rfl rfl (by omega)) ?_;refine .nil ?_;refine bg rfl rfl rfl bY (by show i<4;omega) rfl ?_
   rw[od _ _ (by omega)]
   refine ak (aq (xZ bZ (ae ?_)));refine oS sD (oM (ak ?_));exact xI (i+1) (by omega)
 · skip
   obtain rfl:i=4:=by omega
   refine ay ?_;refine ad (ad (ag (xZ bJ (cR fun _ ck=>?_))));refine oS (aD rfl (aI.aO (.own aV)) aS) ?_;refine bf rfl rfl bY aS aS (by first|exact ia _|exact dH _ _|exact gw rfl|(simp[Value.oneCell'];done)) ?_;refine oZ ck (aA ?_);refine ?_;exact cr rfl (.agg inferInstance inferInstance rfl (aI.aO (.own aV)) aS (.nil)) (rfl)
theorem dK (a b:Cl):HL.Fn Tryz.prog 103 [.agg (Ec a).toArray,.agg (Ec b).toArray] (fun _=>True) [] (fun v _=>v = .agg (Ec (a &&& b)).toArray):=by
 refine aW Tryz.func103 rfl rfl rfl fun w0 hw=>?_
 rw[← Jf a b]
 refine cR fun _ bI=>?_;refine cB rfl rfl rfl fun b2=>?_;refine cB rfl rfl rfl fun b3=>?_;refine aB (l:=Ec 0#256) (by rw[bk];rfl) rfl fun b4=>?_;refine oZ bI (ah fun _ bJ=>?_);refine cR fun _ bK=>?_;refine oM (oZ bK (ai ?_));refine aL (fun (i:Nat)=>i≤4) (fun (i:Nat)=>[(6,.int .i64 i)]) [(2,_),(3,_),(4,_)] (fun (i:Nat)=>[(b4,.cells (Ec 0#256).toArray 39 (0,0)),(b3,.cells (Ec b).toArray 39 (0,0)),(b2,.cells (Ec (uu (fun i w=>w &&& wd b i) a i)).toArray 39 (0,0))]) (fun (i:Nat)=>4-i) 0 (by omega) aH aH aP ?_
 rintro i hI
 refine cR fun _ bU=>?_;refine oS (aF rfl rfl) ?_;refine oZ bU (ah fun _ bT=>?_);refine cx rfl (fun cH=>?_) (fun cH=>?_)
 · skip
   refine ax (xZ bT (ah fun _ bZ=>?_));refine ai (cR fun _ cj=>?_);refine oM (oA (oZ cj ?_));refine uv 8 (by kernel_rfl) ?_;refine .op rfl (ba rfl) ?_;refine .op rfl (dP rfl rfl (by omega)) ?_;refine .op rfl (az rfl ((aI.own aV).iU (j:=i) (lF _ (by omega)) (by omega))) ?_;refine .op rfl (ba rfl) ?_;refine .op rfl (dP rfl rfl (by omega)) ?_;refine .op rfl (az rfl ((aI.own aV).iU (j:=i) (lF _ (by omega)) (by omega))) ?_;refine .op rfl (ab (gW rfl rfl) (Jg (wd _ i) (wd b i))) ?_;refine .op rfl (dP rfl rfl (by omega)) ?_;refine .nil ?_;refine bg rfl rfl rfl bY (by show i<4;omega) rfl ?_
   rw[od _ _ (by omega)]
   refine ak (aq (xZ bZ (ae ?_)));refine oS sD (oM (ak ?_));exact xI (i+1) (by omega)
 · skip
   obtain rfl:i=4:=by omega
   refine ay ?_;refine ad (ad (ag (xZ bJ (cR fun _ ck=>?_))));refine oS (aD rfl (aI.aO (.own aV)) aS) ?_;refine bf rfl rfl bY aS aS (by first|exact ia _|exact dH _ _|exact gw rfl|(simp[Value.oneCell'];done)) ?_;refine oZ ck (aA ?_);refine ?_;exact cr rfl (.agg inferInstance inferInstance rfl (aI.aO (.own aV)) aS (.nil)) (rfl)
theorem iZ (a:Cl):HL.Fn Tryz.prog 104 [.agg (Ec a).toArray] (fun _=>True) [] (fun v _=>v = .agg (Ec (~~~a)).toArray):=by
 refine aW Tryz.func104 rfl rfl rfl fun w0 hw=>?_
 rw[← Jh a]
 refine cR fun _ bI=>?_;refine cB rfl rfl rfl fun b1=>?_;refine aB (l:=Ec 0#256) (by rw[bk];rfl) rfl fun b2=>?_;refine oZ bI (ah fun _ bJ=>?_);refine cR fun _ bK=>?_;refine oM (oZ bK (ai ?_));refine aL (fun (i:Nat)=>i≤4) (fun (i:Nat)=>[(4,.int .i64 i)]) [(1,_),(2,_)] (fun (i:Nat)=>[(b2,.cells (Ec 0#256).toArray 39 (0,0)),(b1,.cells (Ec (uu (fun _ w=>~~~w) a i)).toArray 39 (0,0))]) (fun (i:Nat)=>4-i) 0 (by omega) aH aH aP ?_
 rintro i hI
 refine cR fun _ bU=>?_;refine oS (aF rfl rfl) ?_;refine oZ bU (ah fun _ bT=>?_);refine cx rfl (fun cH=>?_) (fun cH=>?_)
 · skip
   refine ax (xZ bT (ah fun _ bZ=>?_));refine ai (cR fun _ cj=>?_);refine oM (oA (oZ cj (ae (oM (oM ?_)))));refine oS (dP rfl rfl (by omega)) ?_;refine oS (az rfl ((aI.own aV).iU (j:=i) (lF _ (by omega)) (by omega))) ?_;refine oS (ab (WW rfl) (WX (wd _ i))) ?_;refine oS (dP rfl rfl (by omega)) ?_;refine bg rfl rfl rfl bY (by show i<4;omega) rfl ?_
   rw[od _ _ (by omega)]
   refine ak (aq (xZ bZ (ae ?_)));refine oS sD (oM (ak ?_));exact xI (i+1) (by omega)
 · skip
   obtain rfl:i=4:=by omega
   refine ay ?_;refine ad (ad (ag (xZ bJ (cR fun _ ck=>?_))));refine oS (aD rfl (aI.aO (.own aV)) aS) ?_;refine bf rfl rfl bY aS aS (by first|exact ia _|exact dH _ _|exact gw rfl|(simp[Value.oneCell'];done)) ?_;refine oZ ck (aA ?_);refine ?_;exact cr rfl (.agg inferInstance inferInstance rfl (aI.aO (.own aV)) aS (.nil)) (rfl)
theorem Ji (lo hi:Nat)(hlo:lo<256)(hhi:hi<256):HL.Fn Tryz.prog 102 [.int .u8 lo,.int .u8 hi] (fun _=>True) [] (fun v _=>v = .agg (Ec (Gz lo hi)).toArray):=by
 refine aW Tryz.func102 rfl rfl rfl fun w0 hw=>?_;refine cR fun _ bI=>?_;refine aB (l:=Ec 0#256) (by rw[bk];rfl) rfl fun b4=>?_;refine oZ bI (cR fun _ bJ=>?_);refine aB (l:=Ec 0#256) (by rw[bk];rfl) rfl fun b5=>?_;refine oZ bJ (ah fun _ bK=>?_);refine cR fun _ bU=>?_;refine oM ?_;refine oS (ab (v':=.int .i64 ((lo:Nat):Int)) (cV rfl) (congrArg _ (uw (by omega)))) ?_;refine oA (oZ bU (ai ?_))
 rw[← show jz lo lo=0#256 from GA (Nat.le_refl _)]
 refine aL (fun (x:Nat)=>lo≤x∧x≤max lo (hi+1)) (fun (x:Nat)=>[(6,.int .i64 x)]) [(1,_),(4,_),(5,_)] (fun (x:Nat)=>[(b5,.cells (Ec (jz lo x)).toArray 39 (0,0)),(b4,.cells (Ec (jz lo lo)).toArray 39 (0,0))]) (fun (x:Nat)=>256-x) lo ⟨by omega,by omega⟩ aH aH aP ?_
 rintro x ⟨oW,nU⟩
 refine ah fun _ bT=>?_;refine cR fun _ bZ=>?_;refine oM (oM ?_);refine oS (ab (v':=.int .i64 ((hi:Nat):Int)) (cV rfl) (congrArg _ (uw (by omega)))) ?_;refine oS (rW rfl rfl) ?_;refine oZ bZ ?_;refine cx rfl (fun hle=>?_) (fun hle=>?_)
 · skip
   have hx:x<256:=by omega
   refine ax (xZ bT (ah fun _ cj=>?_));refine ai ?_;refine uv 9 (by kernel_rfl) ?_;refine .op rfl (ba rfl) ?_;refine .op rfl (ab (v':=.int .i64 ((x / 64:Nat):Int)) (j6 rfl rfl (by decide)) (congrArg _ (Jj hx))) ?_;refine .op rfl (dP rfl rfl (by omega)) ?_;refine .op rfl (az rfl ((aI.own aV).iU (j:=x / 64) (lF _ (by omega)) (by omega))) ?_;refine .op rfl (ba rfl) ?_;refine .op rfl (ab (v':=.int .i64 ((x % 64:Nat):Int)) (gW rfl rfl) (congrArg _ (GB hx))) ?_;refine .op rfl (ab (v':=Ew (1#64 <<< (x % 64))) (EA rfl rfl (by omega)) (IL (by omega))) ?_;refine .op rfl (ab (IM rfl rfl) (Rn (wd (jz lo x) (x / 64)) (1#64 <<< (x % 64)))) ?_;refine .op rfl (dP rfl rfl (by omega)) ?_;refine .nil ?_;refine bg rfl rfl rfl bY (by show x / 64<4;omega) rfl ?_
   rw[od _ _ (by omega)]
   refine ak (aq (xZ cj (ae (oM ?_))));refine oS sD (oA (ak ?_))
   rw[Ez _ (by omega),← CJ (by omega)]
   exact xI (x+1) ⟨by omega,by omega⟩
 · skip
   have RP:=NS (lo:=lo) (hi:=hi) (x:=x) (by omega) (by omega) (by omega)
   rw[RP]
   refine ay ?_;refine ad (ad (ag (xZ bK (cR fun _ ck=>?_))));refine oS (aD rfl (aI.aO (.own aV)) aS) ?_;refine bf rfl rfl bY aS aS (by first|exact ia _|exact dH _ _|exact gw rfl|(simp[Value.oneCell'];done)) ?_;refine oZ ck (aA ?_);refine ?_;exact cr rfl (.agg inferInstance inferInstance rfl (aI.aO (.own aV)) aS (.nil)) (rfl)
theorem aaY (w:BitVec 64):HL.Fn Tryz.prog 137 [Ew w] (fun w=>r9 w 0 0 CE) [] (fun v _=>v = .int .i64 (Lib.ctz 64 w.toNat)):=by
 refine aW Tryz.func137 rfl rfl rfl fun w0 hw=>?_;refine cR fun _ bI=>?_;refine oA (oZ bI (ah fun _ bJ=>?_));refine cR fun _ bK=>?_;refine oM ?_;refine oS (bO rfl rfl) ?_;refine oZ bK ?_;refine cx rfl (fun hz=>?_) (fun hz=>?_)
 · skip
   refine cR fun _ bU=>?_;refine oA (oZ bU (aA ?_));refine aj (?_);exact xR rfl rfl (congrArg (Value.int .i64) (by rw[Mu hz];rfl))
 · skip
   obtain⟨N0,Ie⟩:=Vo w hz
   refine ax (xZ bJ (cR fun _ bT=>?_));refine oM (oM ?_);refine oS (ab (v':=Ew (-w)) (WY rfl) (aat w)) ?_;refine oS (ab (v':=Ew (w &&& -w)) (gW rfl rfl) (Jg w (-w))) ?_;refine oS (ab (v':=Ew ((w &&& -w)*285870213051353865#64)) (VA rfl rfl) (Vm _)) ?_;refine oS (ab (v':=Ew (((w &&& -w)*285870213051353865#64) >>> 58)) (j6 rfl rfl (by decide)) (aaF _ 58 rfl)) ?_;refine oS (dP (i:=(((w &&& -w)*285870213051353865#64) >>> 58).toNat) rfl rfl N0) ?_;refine oS (az rfl ((aI.bj hw).iU (j:=(((w &&& -w)*285870213051353865#64) >>> 58).toNat) Ie (by omega))) ?_;refine oS (ab (v':=.int .i64 ((Lib.ctz 64 w.toNat:Nat):Int)) (cV rfl) (congrArg _ (uw (by have:=Vn w;omega)))) ?_;refine oA (oZ bT (aA ?_));refine ?_;exact xR rfl rfl (rfl)
theorem Dh (c:Cl):HL.Fn Tryz.prog 121 [.agg (Ec c).toArray] (fun _=>True) [] (fun v S'=>∃ b,v = .func (.func 136) [].toArray [.pointer (some ⟨b,0,none⟩)].toArray∧S' = [(b,.cells (Ec c).toArray 39 (0,0))]):=by
 refine aW Tryz.func121 rfl rfl rfl fun w0 hw=>?_;refine cR fun _ bI=>?_;refine cB rfl rfl rfl fun b1=>?_;refine oA (oZ bI (cR fun _ bJ=>?_));refine oS (yk (us:=[]) (vs:=[_]) rfl rfl) ?_;refine oA (oZ bJ (aA ?_));refine ?_;exact xR rfl rfl (⟨_,rfl,rfl⟩)
theorem PW (b:Nat)(c:Cl)(l:Nat)(HS HX:List Nat→Hp→Prop)(hY:∀ (pre:List Nat)(x:Nat)(B:Hp),HS pre B→pre++[x] <+: fV c→Yd Tryz.prog l [.int .u8 x] B (fun v B'=>(v = .bool true∧HS (pre++[x]) B')∨(v = .bool false∧HX (pre++[x]) B')))(B:Hp)(hB:HS [] B):HL.Fn Tryz.prog 136 [.func (.yield l) #[] #[],.pointer (some ⟨b,0,none⟩)] (Tb ([(b,.cells (Ec c).toArray 39 (0,0))]++B)) ([(b,.cells (Ec c).toArray 39 (0,0))]++B) (fun _ S'=>∃ S1 B',S'=S1++B'∧S1 = [(b,.cells (Ec c).toArray 39 (0,0))]∧(HS (fV c) B'∨∃ p,p <+: fV c∧HX p B')):=by
 refine aW Tryz.func136 rfl rfl rfl fun w0 hw=>?_;refine cR fun _ bI=>?_;refine oM (oZ bI (ai ?_));refine cY (fun (i:Nat)(B:Hp)=>i≤4∧HS (eJ c (64*i)) B) (fun (i:Nat)(B:Hp)=>[(5,.int .i64 i)]) [(0,_),(1,_)] (fun (i:Nat)(B:Hp)=>[(b,.cells (Ec c).toArray 39 (0,0))]++B) (fun (i:Nat)(B:Hp)=>4-i) 0 B ⟨by omega,hB⟩ aH aH (by exact HSub.refl _) ?_
 rintro i B ⟨hi,hH⟩
 refine cR fun _ bJ=>?_;refine oS (aF rfl rfl) ?_;refine oZ bJ (ah fun _ bK=>?_);refine cx rfl (fun cH=>?_) (fun cH=>?_)
 · skip
   have VO:i<4:=by omega
   refine ax (xZ bK (ah fun _ bU=>?_));refine ai (ah fun _ bT=>?_);refine iA (by kernel_rfl) ?_;refine .op rfl (ba rfl) ?_;refine .op rfl (Qw rfl) ?_;refine .op rfl (dP rfl rfl (by omega)) ?_;refine .op rfl (az rfl ((aI.own aV).iU (j:=i) (lF _ (by omega)) (by omega))) ?_;refine .op rfl (dF rfl) ?_;refine .op rfl (dF rfl) ?_;refine .nil ?_;refine xZ bT (ai ?_);refine dt (fun (w:BitVec 64)(p:List Nat)(B2:Hp)=>fV c=p++(qE i w++(fV c).drop (eJ c (64*i+64)).length)∧HS p B2) (fun (w:BitVec 64)(p:List Nat)(B2:Hp)=>[(4,Ew w)]) [(0,_),(1,_),(3,_),(5,_),(6,_),(7,_),(8,_),(9,_),(10,_)] (fun (w:BitVec 64)(p:List Nat)(B2:Hp)=>[(b,.cells (Ec c).toArray 39 (0,0))]++B2) (fun (w:BitVec 64)(p:List Nat)(B2:Hp)=>(qE i w).length) (wd c i) (eJ c (64*i)) B ⟨H2 c VO,hH⟩ aH aH (by exact HSub.refl _) ?_
   rintro w p B2 ⟨hm,hH2⟩
   refine ah fun _ bZ=>?_;refine cR fun _ cj=>?_;refine oM ?_;refine oS (eY rfl rfl) ?_;refine oZ cj ?_;refine cx rfl (fun dM=>?_) (fun dM=>?_)
   · skip
     have hw0:w≠0#64:=PD dM
     have hc:=H3 i w hw0
     have hkt:=(ML w hw0).1
     have Pf:p++[64*i+Lib.ctz 64 w.toNat] <+: fV c:=⟨_,by rw[hm,hc,List.append_assoc];rfl⟩
     refine ax (xZ bZ (ah fun _ ck=>?_));refine ai (cR fun _ cQ=>?_);refine oM (oM ?_);refine oS (ab (v':=.int .i64 ((64*i:Nat):Int)) (EA rfl rfl (by decide)) (congrArg _ (agQ VO))) ?_;refine oM ?_;refine ar (aaY w) rfl rfl rfl (fun w st=>(aI.old hw.1 hw.2).out w st) (fun v21 UF=>?_);subst UF
     refine oS (ab (v':=.int .i64 ((64*i+Lib.ctz 64 w.toNat:Nat):Int)) (kW rfl rfl (by omega)) (by rw[Int.natCast_add])) ?_;refine oS (ab (v':=.int .u8 ((64*i+Lib.ctz 64 w.toNat:Nat):Int)) (cV rfl) (congrArg _ (tV (by omega)))) ?_;refine Pd (hY p _ B2 hH2 Pf) rfl rfl rfl bh (fun v24 XZ Jp=>?_)
     rcases Jp with ⟨rfl,hH3⟩|⟨rfl,hX3⟩
     · skip
       refine oS (aT rfl) ?_;refine oZ cQ ?_;refine cF (ax (aq (xZ ck (ae (oM (oM ?_))))));refine oS (ab (v':=Ew (w-1#64)) (Ef rfl rfl) (Vt w)) ?_;refine oS (ab (v':=Ew (w &&& (w-1#64))) (gW rfl rfl) (Jg _ _)) ?_;refine oA (ak ?_);exact av (cd (w &&& (w-1#64),p++[64*i+Lib.ctz 64 w.toNat],XZ) ⟨hm.trans (by rw[hc];simp[List.append_assoc]),hH3⟩ (by show (qE i (w &&& (w-1#64))).length<(qE i w).length;rw[hc];simp) aH aP)
     · skip
       refine oS (aT rfl) ?_;refine oZ cQ ?_;refine cT (aA ?_);refine aw (aj (aj (aw (aw (aj (aj (aw (?_))))))))
       refine cM (Sub.refl _) (H':=[(b,.cells (Ec c).toArray 39 (0,0))]++XZ) aP ?_;exact cr rfl (.nil) (⟨_,_,rfl,rfl,.inr ⟨_,Pf,hX3⟩⟩)
   · skip
     have hz0:w=0#64:=PE dM
     refine ay ?_;refine ad (ad (ag (aq (xZ bU (ae ?_)))));refine oS sD (oM (ak ?_))
     rw[HR VO hm hz0] at hH2
     exact xI (i+1,B2) ⟨by omega,hH2⟩
 · skip
   obtain rfl:i=4:=by omega
   refine ay ?_;refine ad (ad (ag ?_));exact fB rfl (.nil) (⟨_,_,rfl,rfl,.inl hH⟩)
theorem Di (b : Nat) (c : Cl) : It Tryz.prog 136 [] [.pointer (some ⟨b, 0, none⟩)] (fun x : Nat => [.int .u8 x]) (fV c) Tb [(b, .cells (Ec c).toArray 39 (0, 0))] (fun S1 => S1 = [(b, .cells (Ec c).toArray 39 (0, 0))]) :=
 ⟨rj Tryz.func136 rfl rfl,fun l HS HX hY B hB=>PW b c l HS HX hY B hB⟩
theorem BJ (c:Cl):HL.Fn Tryz.prog 105 [.agg (Ec c).toArray] (Tb []) [] (fun v _=>v = .int .i64 (least c)):=by
 refine zj Tryz.func105 rfl rfl rfl fun w0 hw=>?_;refine bn fun _ bI=>?_;refine ae ?_;refine cB rfl rfl rfl fun b1=>?_;refine aB rfl rfl fun b2=>?_;refine ak ?_;refine av (bI _ _ _ ?_);refine bn fun _ bJ=>?_;refine bn fun _ bK=>?_;refine ae ?_;refine oS (aD rfl (aI.aO (.own aV)) aS) ?_;refine aX (Dh c) rfl rfl rfl (by exact .nil) (fun _ _=>trivial) (fun v5 S5 ⟨b5,Rt,Wr⟩=>?_);subst Rt
 subst Wr; refine ak ?_; refine av (bK _ _ _ ?_); refine ai ?_; refine zk (α := Nat) (B0 := [(b2, .cells [.int .i64 0].toArray 3 (0, 0))]) (fun p B => p = [] ∧ B = [(b2, .cells [.int .i64 0].toArray 3 (0, 0))]) (fun c p B => c = .ret ∧ ∃ x : Nat, p = [x] ∧ B = [(b2, .cells [.int .i64 x].toArray 3 (0, 0))]) rfl (Di b5 c) (bh) ((fun w H1 S1 st hs => dI hw st hs)) ⟨rfl, rfl⟩ (by kernel_rfl) (fun _ => rfl) (by kernel_rfl) ?_ ?_ ?_
 · rintro l r p x B W er1 er2 ⟨rfl,rfl⟩ hx post hy hn
   have mH:x<256:=zm hx
   refine ae (oA (ak ?_));refine av (zn bY (by kernel_rfl) ?_);refine ai ?_;refine bn fun _ bU=>?_;refine ae (oM ?_);refine oS (ab (v':=.int .i64 ((x:Nat):Int)) (cV rfl) (congrArg _ (uw (by omega)))) ?_;refine bg rfl rfl rfl bY (by first|decide|omega|(simp;done)|(simp;omega)) rfl ?_;refine ak ?_;refine av (bU _ _ _ ?_);refine aA ?_;refine aw (?_);exact U4 bY (hn _ _ ⟨rfl,x,rfl,rfl⟩)
 · rintro D0 Yc B0 rfl ⟨hm,rfl⟩
   refine aq ?_;refine av (bJ _ _ _ ?_);refine bn fun _ bT=>?_;refine ae ?_;refine bg rfl rfl rfl bY (by first|decide|omega|(simp;done)|(simp;omega)) rfl ?_;refine ak ?_;refine av (bT _ _ _ ?_);refine aA ?_;refine ?_;exact fh (.cons (.nil)) bh rfl (.cell inferInstance rfl (.own aV rfl) (.nil)) (congrArg (Value.int .i64) (HU hm))
 · rintro D0 Yc c p B0 rfl Qy ⟨rfl,x,rfl,rfl⟩
   refine aA ?_;refine aw (aj (?_))
   exact fh (.cons (.nil)) bh rfl (.cell inferInstance rfl (.own aV rfl) (.nil)) (congrArg (Value.int .i64) (vv Qy))
theorem LL (a:Option Addr)(n:Nat)(l:List Cl):HL.Fn Tryz.prog 40 [.slice a l.length n] (fun w=>Rd Ec w (.slice a l.length n) l∧Tb [] w) [] (fun v S'=>∃ a' n',v = .slice a' (atoms l).length n'∧aG Ec 4 39 (.slice a' (atoms l).length n') (atoms l) S'):=by
 refine aW Tryz.func40 rfl rfl rfl fun w0 hw=>?_
 have dr:=hw.1.sl
 have s3:=dr.le
 refine cR fun _ bI=>?_;refine oA (oZ bI (cR fun _ bJ=>?_));refine ar (Ji 0 255 (by decide) (by decide)) rfl rfl rfl (fun _ _=>trivial) (fun v13 Ty=>?_);subst Ty
 refine ct (E:=Ec) (xs:=[Gz 0 255]) (vs:=[_]) rfl rfl rfl rfl rfl (by decide) (by decide) fun rz oT Db=>?_;refine oA (oZ bJ (ah fun _ bK=>?_));refine cR fun _ bU=>?_;refine oM ?_;refine oS sC (oM (oZ bU (ai ?_)));refine fM (fun (i:Nat)(b:Option Addr)(m:Nat)(S:Hp)=>i≤l.length∧aG Ec 4 39 (.slice b (parts (l.take i)).length m) (parts (l.take i)) S) (fun (i:Nat)(b:Option Addr)(m:Nat)(S:Hp)=>[(17,.int .i64 i),(3,.slice b (parts (l.take i)).length m)]) [(2,_),(15,_),(16,_)] (fun (i:Nat)(b:Option Addr)(m:Nat)(S:Hp)=>S) (fun (i:Nat)(b:Option Addr)(m:Nat)(S:Hp)=>l.length-i) 0 (some ⟨rz,0,none⟩) 1 oT ⟨by omega,Db⟩ aH aH (by exact HSub.iB bh) ?_
 rintro i b m S ⟨hi,hS⟩
 have B7:=hS.sl
 have qH:=Hz (l.take i)
 refine cR fun _ bT=>?_;refine oS (aF rfl rfl) ?_;refine oZ bT (ah fun _ bZ=>?_);refine cx rfl (fun Ro=>?_) (fun Ro=>?_)
 · skip
   have cH:i<l.length:=by omega
   obtain⟨c,jq⟩:∃ c,c=l[i]:=⟨_,rfl⟩
   have Nq:l[i]?=some c:=by rw[jq];exact List.getElem?_eq_getElem cH
   refine ax (xZ bZ (ah fun _ cj=>?_));refine ai (cR fun _ ck=>?_);refine oS (au rfl rfl dr (by omega)) ?_;refine oS (aD rfl ((cq.bj hw.1).gx i Nq (by omega)) rfl) ?_;refine aB (l:=Ec 0#256) (by rw[bk];rfl) rfl fun b5=>?_;refine bf rfl rfl bY aS aS (by first|exact ia _|exact dH _ _|exact gw rfl|(simp[Value.oneCell'];done)) ?_;refine oZ ck (cR fun _ cQ=>?_);refine oA (oZ cQ (ah fun _ bw=>?_));refine cR fun _ bF=>?_;refine oM ?_;refine oS sC (oM (oZ bF (ai ?_)));refine fM (fun (j:Nat)(b2:Option Addr)(m2:Nat)(S2:Hp)=>j≤(parts (l.take i)).length∧aG Ec 4 39 (.slice b2 (refine ((parts (l.take i)).take j) c).length m2) (refine ((parts (l.take i)).take j) c) S2) (fun (j:Nat)(b2:Option Addr)(m2:Nat)(S2:Hp)=>[(23,.int .i64 j),(6,.slice b2 (refine ((parts (l.take i)).take j) c).length m2)]) [(2,_),(3,_),(5,_),(15,_),(16,_),(17,_),(18,_),(19,_),(20,_),(21,_),(22,_)] (fun (j:Nat)(b2:Option Addr)(m2:Nat)(S2:Hp)=>S2++(S++[(b5,.cells (Ec c).toArray 39 (0,0))])) (fun (j:Nat)(b2:Option Addr)(m2:Nat)(S2:Hp)=>(parts (l.take i)).length-j) 0 none 0 [] ⟨by omega,.nil⟩ aH aH (by exact HSub.za (List.perm_append_comm (l₁:=[_]) (l₂:=S))) ?_
   rintro j b2 m2 S2 ⟨hj0,IY⟩
   have wY:=LA (l.take i) c j
   refine cR fun _ bD=>?_;refine oS (aF rfl rfl) ?_;refine oZ bD (ah fun _ cb=>?_);refine cx rfl (fun hj1=>?_) (fun hj1=>?_)
   · skip
     have hj:j<(parts (l.take i)).length:=by omega
     have hgj:=List.getElem?_eq_getElem hj
     refine ax (xZ cb (ah fun _ bL=>?_));refine ai (cR fun _ bQ=>?_);refine oS (au rfl rfl B7 (by omega)) ?_;refine oS (aD rfl ((hS.aU aM).gx j hgj (by omega)) rfl) ?_;refine aB (l:=Ec 0#256) (by rw[bk];rfl) rfl fun b8=>?_;refine bf rfl rfl bY aS aS (by first|exact ia _|exact dH _ _|exact gw rfl|(simp[Value.oneCell'];done)) ?_;refine oZ bQ (ah fun _ cO=>?_);refine aK ([(b8,.cells (Ec ((parts (l.take i))[j])).toArray 39 (0,0)),(b5,.cells (Ec c).toArray 39 (0,0))]) (fun i=>false) ?_;refine eK 0 rfl (aD rfl (aI.aO (.own aV)) aS) ?_;refine eK 1 rfl (aD rfl (aI.aO (.own aV)) aS) ?_;refine eK 3 rfl (aD rfl (aI.aO (.own aV)) aS) ?_;refine eK 4 rfl (aD rfl (aI.aO (.own aV)) aS) ?_;refine Cv (ι:=Nat×Nat) (fun g=>[(29,.agg (Ec (((parts (l.take i))[j]) &&& c)).toArray),(33,.agg (Ec (((parts (l.take i))[j]) &&& ~~~c)).toArray),(32,.agg (Ec (~~~c)).toArray),(9,.pointer (some ⟨g.1,0,none⟩)),(10,.pointer (some ⟨g.2,0,none⟩))]) [(2,_),(3,_),(5,_),(6,_),(8,_),(15,_),(16,_),(17,_),(18,_),(19,_),(20,_),(21,_),(22,_),(23,_),(24,_),(25,_),(26,_),(27,_),(28,_),(30,_),(31,_)] (fun g=>[(g.1,.cells (Ec 0#256).toArray 39 (0,0)),(g.2,.cells (Ec 0#256).toArray 39 (0,0)),(b8,.cells (Ec ((parts (l.take i))[j])).toArray 39 (0,0))]++(S2++(S++[(b5,.cells (Ec c).toArray 39 (0,0))]))) 2 #[true,true,true,true,true,true,true,true,true,false,false] aH (fun hJ=>?_) ?_
     · skip
       refine uo 2 7 8 rfl rfl rfl (by kernel_rfl) ?_ ?_ ?_
       · skip
         refine ar (dK ((parts (l.take i))[j]) c) rfl rfl rfl (fun _ _=>trivial) (fun Rv oh=>?_);subst oh
         refine oX ?_;refine uo 5 7 8 rfl rfl rfl (by kernel_rfl) ?_ ?_ ?_
         · skip
           refine ar (iZ c) rfl rfl rfl (fun _ _=>trivial) (fun F2 g9=>?_);subst g9
           refine oX ?_;refine uo 6 7 8 rfl rfl rfl (by kernel_rfl) ?_ ?_ ?_
           · skip
             refine ar (dK ((parts (l.take i))[j]) (~~~c)) rfl rfl rfl (fun _ _=>trivial) (fun xx fg=>?_);subst fg
             refine oX ?_;refine ej 7 8 rfl rfl (by kernel_rfl) ?_ ?_
             · skip
               refine aB (l:=Ec 0#256) (by rw[bk];rfl) rfl fun b9=>?_;refine oX (eO 8 rfl ?_);refine aB (l:=Ec 0#256) (by rw[bk];rfl) rfl fun gT=>?_;refine oX ?_
               exact dC (by kernel_rfl) (hJ (b9,gT) _ _ aH aH aP)
             · skip
               refine aB (l:=Ec 0#256) (by rw[bk];rfl) rfl fun gT=>?_;refine oX (eO 7 rfl ?_);refine aB (l:=Ec 0#256) (by rw[bk];rfl) rfl fun b9=>?_;refine oX ?_
               exact dC (by kernel_rfl) (hJ (b9,gT) _ _ aH aH aP)
           · skip
             refine aB (l:=Ec 0#256) (by rw[bk];rfl) rfl fun b9=>?_;refine oX ?_;refine ej 6 8 rfl rfl (by kernel_rfl) ?_ ?_
             · skip
               refine ar (dK ((parts (l.take i))[j]) (~~~c)) rfl rfl rfl (fun _ _=>trivial) (fun xx fg=>?_);subst fg
               refine oX (eO 8 rfl ?_);refine aB (l:=Ec 0#256) (by rw[bk];rfl) rfl fun gT=>?_;refine oX ?_
               exact dC (by kernel_rfl) (hJ (b9,gT) _ _ aH aH aP)
             · skip
               refine aB (l:=Ec 0#256) (by rw[bk];rfl) rfl fun gT=>?_;refine oX (eO 6 rfl ?_);refine ar (dK ((parts (l.take i))[j]) (~~~c)) rfl rfl rfl (fun _ _=>trivial) (fun xx fg=>?_);subst fg
               refine oX ?_
               exact dC (by kernel_rfl) (hJ (b9,gT) _ _ aH aH aP)
           · skip
             refine aB (l:=Ec 0#256) (by rw[bk];rfl) rfl fun gT=>?_;refine oX ?_;refine ej 6 7 rfl rfl (by kernel_rfl) ?_ ?_
             · skip
               refine ar (dK ((parts (l.take i))[j]) (~~~c)) rfl rfl rfl (fun _ _=>trivial) (fun xx fg=>?_);subst fg
               refine oX (eO 7 rfl ?_);refine aB (l:=Ec 0#256) (by rw[bk];rfl) rfl fun b9=>?_;refine oX ?_
               exact dC (by kernel_rfl) (hJ (b9,gT) _ _ aH aH aP)
             · skip
               refine aB (l:=Ec 0#256) (by rw[bk];rfl) rfl fun b9=>?_;refine oX (eO 6 rfl ?_);refine ar (dK ((parts (l.take i))[j]) (~~~c)) rfl rfl rfl (fun _ _=>trivial) (fun xx fg=>?_);subst fg
               refine oX ?_
               exact dC (by kernel_rfl) (hJ (b9,gT) _ _ aH aH aP)
         · skip
           refine aB (l:=Ec 0#256) (by rw[bk];rfl) rfl fun b9=>?_;refine oX ?_;refine ej 5 8 rfl rfl (by kernel_rfl) ?_ ?_
           · skip
             refine ar (iZ c) rfl rfl rfl (fun _ _=>trivial) (fun F2 g9=>?_);subst g9
             refine oX ?_;refine ej 6 8 rfl rfl (by kernel_rfl) ?_ ?_
             · skip
               refine ar (dK ((parts (l.take i))[j]) (~~~c)) rfl rfl rfl (fun _ _=>trivial) (fun xx fg=>?_);subst fg
               refine oX (eO 8 rfl ?_);refine aB (l:=Ec 0#256) (by rw[bk];rfl) rfl fun gT=>?_;refine oX ?_
               exact dC (by kernel_rfl) (hJ (b9,gT) _ _ aH aH aP)
             · skip
               refine aB (l:=Ec 0#256) (by rw[bk];rfl) rfl fun gT=>?_;refine oX (eO 6 rfl ?_);refine ar (dK ((parts (l.take i))[j]) (~~~c)) rfl rfl rfl (fun _ _=>trivial) (fun xx fg=>?_);subst fg
               refine oX ?_
               exact dC (by kernel_rfl) (hJ (b9,gT) _ _ aH aH aP)
           · skip
             refine aB (l:=Ec 0#256) (by rw[bk];rfl) rfl fun gT=>?_;refine oX (eO 5 rfl ?_);refine ar (iZ c) rfl rfl rfl (fun _ _=>trivial) (fun F2 g9=>?_);subst g9
             refine oX (eO 6 rfl ?_);refine ar (dK ((parts (l.take i))[j]) (~~~c)) rfl rfl rfl (fun _ _=>trivial) (fun xx fg=>?_);subst fg
             refine oX ?_
             exact dC (by kernel_rfl) (hJ (b9,gT) _ _ aH aH aP)
         · skip
           refine aB (l:=Ec 0#256) (by rw[bk];rfl) rfl fun gT=>?_;refine oX ?_;refine ej 5 7 rfl rfl (by kernel_rfl) ?_ ?_
           · skip
             refine ar (iZ c) rfl rfl rfl (fun _ _=>trivial) (fun F2 g9=>?_);subst g9
             refine oX ?_;refine ej 6 7 rfl rfl (by kernel_rfl) ?_ ?_
             · skip
               refine ar (dK ((parts (l.take i))[j]) (~~~c)) rfl rfl rfl (fun _ _=>trivial) (fun xx fg=>?_);subst fg
               refine oX (eO 7 rfl ?_);refine aB (l:=Ec 0#256) (by rw[bk];rfl) rfl fun b9=>?_;refine oX ?_
               exact dC (by kernel_rfl) (hJ (b9,gT) _ _ aH aH aP)
             · skip
               refine aB (l:=Ec 0#256) (by rw[bk];rfl) rfl fun b9=>?_;refine oX (eO 6 rfl ?_);refine ar (dK ((parts (l.take i))[j]) (~~~c)) rfl rfl rfl (fun _ _=>trivial) (fun xx fg=>?_);subst fg
               refine oX ?_
               exact dC (by kernel_rfl) (hJ (b9,gT) _ _ aH aH aP)
           · skip
             refine aB (l:=Ec 0#256) (by rw[bk];rfl) rfl fun b9=>?_;refine oX (eO 5 rfl ?_);refine ar (iZ c) rfl rfl rfl (fun _ _=>trivial) (fun F2 g9=>?_);subst g9
             refine oX (eO 6 rfl ?_);refine ar (dK ((parts (l.take i))[j]) (~~~c)) rfl rfl rfl (fun _ _=>trivial) (fun xx fg=>?_);subst fg
             refine oX ?_
             exact dC (by kernel_rfl) (hJ (b9,gT) _ _ aH aH aP)
       · skip
         refine aB (l:=Ec 0#256) (by rw[bk];rfl) rfl fun b9=>?_;refine oX ?_;refine ej 2 8 rfl rfl (by kernel_rfl) ?_ ?_
         · skip
           refine ar (dK ((parts (l.take i))[j]) c) rfl rfl rfl (fun _ _=>trivial) (fun Rv oh=>?_);subst oh
           refine oX ?_;refine ej 5 8 rfl rfl (by kernel_rfl) ?_ ?_
           · skip
             refine ar (iZ c) rfl rfl rfl (fun _ _=>trivial) (fun F2 g9=>?_);subst g9
             refine oX ?_;refine ej 6 8 rfl rfl (by kernel_rfl) ?_ ?_
             · skip
               refine ar (dK ((parts (l.take i))[j]) (~~~c)) rfl rfl rfl (fun _ _=>trivial) (fun xx fg=>?_);subst fg
               refine oX (eO 8 rfl ?_);refine aB (l:=Ec 0#256) (by rw[bk];rfl) rfl fun gT=>?_;refine oX ?_
               exact dC (by kernel_rfl) (hJ (b9,gT) _ _ aH aH aP)
             · skip
               refine aB (l:=Ec 0#256) (by rw[bk];rfl) rfl fun gT=>?_;refine oX (eO 6 rfl ?_);refine ar (dK ((parts (l.take i))[j]) (~~~c)) rfl rfl rfl (fun _ _=>trivial) (fun xx fg=>?_);subst fg
               refine oX ?_
               exact dC (by kernel_rfl) (hJ (b9,gT) _ _ aH aH aP)
           · skip
             refine aB (l:=Ec 0#256) (by rw[bk];rfl) rfl fun gT=>?_;refine oX (eO 5 rfl ?_);refine ar (iZ c) rfl rfl rfl (fun _ _=>trivial) (fun F2 g9=>?_);subst g9
             refine oX (eO 6 rfl ?_);refine ar (dK ((parts (l.take i))[j]) (~~~c)) rfl rfl rfl (fun _ _=>trivial) (fun xx fg=>?_);subst fg
             refine oX ?_
             exact dC (by kernel_rfl) (hJ (b9,gT) _ _ aH aH aP)
         · skip
           refine aB (l:=Ec 0#256) (by rw[bk];rfl) rfl fun gT=>?_;refine oX (eO 2 rfl ?_);refine ar (dK ((parts (l.take i))[j]) c) rfl rfl rfl (fun _ _=>trivial) (fun Rv oh=>?_);subst oh
           refine oX (eO 5 rfl ?_);refine ar (iZ c) rfl rfl rfl (fun _ _=>trivial) (fun F2 g9=>?_);subst g9
           refine oX (eO 6 rfl ?_);refine ar (dK ((parts (l.take i))[j]) (~~~c)) rfl rfl rfl (fun _ _=>trivial) (fun xx fg=>?_);subst fg
           refine oX ?_
           exact dC (by kernel_rfl) (hJ (b9,gT) _ _ aH aH aP)
       · skip
         refine aB (l:=Ec 0#256) (by rw[bk];rfl) rfl fun gT=>?_;refine oX ?_;refine ej 2 7 rfl rfl (by kernel_rfl) ?_ ?_
         · skip
           refine ar (dK ((parts (l.take i))[j]) c) rfl rfl rfl (fun _ _=>trivial) (fun Rv oh=>?_);subst oh
           refine oX ?_;refine ej 5 7 rfl rfl (by kernel_rfl) ?_ ?_
           · skip
             refine ar (iZ c) rfl rfl rfl (fun _ _=>trivial) (fun F2 g9=>?_);subst g9
             refine oX ?_;refine ej 6 7 rfl rfl (by kernel_rfl) ?_ ?_
             · skip
               refine ar (dK ((parts (l.take i))[j]) (~~~c)) rfl rfl rfl (fun _ _=>trivial) (fun xx fg=>?_);subst fg
               refine oX (eO 7 rfl ?_);refine aB (l:=Ec 0#256) (by rw[bk];rfl) rfl fun b9=>?_;refine oX ?_
               exact dC (by kernel_rfl) (hJ (b9,gT) _ _ aH aH aP)
             · skip
               refine aB (l:=Ec 0#256) (by rw[bk];rfl) rfl fun b9=>?_;refine oX (eO 6 rfl ?_);refine ar (dK ((parts (l.take i))[j]) (~~~c)) rfl rfl rfl (fun _ _=>trivial) (fun xx fg=>?_);subst fg
               refine oX ?_
               exact dC (by kernel_rfl) (hJ (b9,gT) _ _ aH aH aP)
           · skip
             refine aB (l:=Ec 0#256) (by rw[bk];rfl) rfl fun b9=>?_;refine oX (eO 5 rfl ?_);refine ar (iZ c) rfl rfl rfl (fun _ _=>trivial) (fun F2 g9=>?_);subst g9
             refine oX (eO 6 rfl ?_);refine ar (dK ((parts (l.take i))[j]) (~~~c)) rfl rfl rfl (fun _ _=>trivial) (fun xx fg=>?_);subst fg
             refine oX ?_
             exact dC (by kernel_rfl) (hJ (b9,gT) _ _ aH aH aP)
         · skip
           refine aB (l:=Ec 0#256) (by rw[bk];rfl) rfl fun b9=>?_;refine oX (eO 2 rfl ?_);refine ar (dK ((parts (l.take i))[j]) c) rfl rfl rfl (fun _ _=>trivial) (fun Rv oh=>?_);subst oh
           refine oX (eO 5 rfl ?_);refine ar (iZ c) rfl rfl rfl (fun _ _=>trivial) (fun F2 g9=>?_);subst g9
           refine oX (eO 6 rfl ?_);refine ar (dK ((parts (l.take i))[j]) (~~~c)) rfl rfl rfl (fun _ _=>trivial) (fun xx fg=>?_);subst fg
           refine oX ?_
           exact dC (by kernel_rfl) (hJ (b9,gT) _ _ aH aH aP)
     · rintro⟨b9,gT⟩
       refine eO 9 rfl ?_;refine bf rfl rfl bY aS aS (by first|exact ia _|exact dH _ _|exact gw rfl|(simp[Value.oneCell'];done)) ?_;refine oX (eO 10 rfl ?_);refine bf rfl rfl bY aS aS (by first|exact ia _|exact dH _ _|exact gw rfl|(simp[Value.oneCell'];done)) ?_;refine oX (eZ cO (ah fun _ df=>?_));refine cR fun _ cZ=>?_;refine oS (aD rfl (aI.aO (.own aV)) aS) ?_;refine oS (ab (v':=.agg (Ec 0#256).toArray) (fX rfl) (by rw[bk];rfl)) ?_
       by_cases h1:(((parts (l.take i))[j]) &&& c)=0#256
       · skip
         refine oS (ab (v':=.bool true) (fq rfl rfl) (congrArg Value.bool (decide_eq_true h1))) ?_;refine oM ?_;refine oN ?_;refine oN ?_;refine oN ?_;refine oS sT (oZ cZ ?_);refine cT (cR fun _ dq=>?_);refine oM ?_;refine oS (aD rfl (aI.aO (.own aV)) aS) ?_;refine ct (E:=Ec) (xs:=[((parts (l.take i))[j])]) (vs:=[_]) rfl rfl rfl rfl rfl (by decide) (by decide) fun b44 S44 Mh=>?_;refine bX IY (Mh.aU aM) rfl rfl rfl rfl (by show ((refine ((parts (l.take i)).take j) c).length+1)*32≤_;omega) (by show (refine ((parts (l.take i)).take j) c).length+1≤_;omega) rfl bh fun a45 c45 S45 Va=>?_;refine oA (oZ dq ?_);refine ay ?_;refine ad (ag (xZ bL (ae ?_)));refine oS sD (oM (ak ?_))
         have dV:=m9 (parts (l.take i)) c hj
         have hr:oE c ((parts (l.take i))[j]) = [((parts (l.take i))[j])]:=by simp[oE,h1]
         exact av (cd (j+1,_,_,S45) ⟨by omega,by rw[dV,hr];exact Va⟩ (by first|omega|(dsimp only;omega)) (by refine Sub.cons rfl (Sub.fY rfl (by rw[dV,hr]) aH)) aP)
       · skip
         refine oS (ab (v':=.bool false) (fq rfl rfl) (congrArg Value.bool (decide_eq_false h1))) ?_;refine oM ?_;refine oY ?_;refine oS (aD rfl (aI.aO (.own aV)) aS) ?_;refine oY ?_;refine oS (ab (v':=.agg (Ec 0#256).toArray) (fX rfl) (by rw[bk];rfl)) ?_;refine oY ?_
         by_cases h2:(((parts (l.take i))[j]) &&& ~~~c)=0#256
         · skip
           refine oS (ab (v':=.bool true) (fq rfl rfl) (congrArg Value.bool (decide_eq_true h2))) ?_;refine oS sP (oZ cZ ?_);refine cT (cR fun _ dG=>?_);refine oM ?_;refine oS (aD rfl (aI.aO (.own aV)) aS) ?_;refine ct (E:=Ec) (xs:=[((parts (l.take i))[j])]) (vs:=[_]) rfl rfl rfl rfl rfl (by decide) (by decide) fun b44 S44 Mh=>?_;refine bX IY (Mh.aU aM) rfl rfl rfl rfl (by show ((refine ((parts (l.take i)).take j) c).length+1)*32≤_;omega) (by show (refine ((parts (l.take i)).take j) c).length+1≤_;omega) rfl bh fun a45 c45 S45 Va=>?_;refine oA (oZ dG ?_);refine ay ?_;refine ad (ag (xZ bL ?_))
           refine ae ?_;refine oS sD (oM (ak ?_))
           have dV:=m9 (parts (l.take i)) c hj
           have hr:oE c ((parts (l.take i))[j]) = [((parts (l.take i))[j])]:=by simp[oE,h2]
           exact av (cd (j+1,_,_,S45) ⟨by omega,by rw[dV,hr];exact Va⟩ (by first|omega|(dsimp only;omega)) (by refine Sub.cons rfl (Sub.fY rfl (by rw[dV,hr]) aH)) aP)
         · skip
           refine oS (ab (v':=.bool false) (fq rfl rfl) (congrArg Value.bool (decide_eq_false h2))) ?_;refine oS sP (oZ cZ ?_);refine eL df (ae (oM ?_));refine oS (aD rfl (aI.aO (.own aV)) aS) ?_;refine oS (aD rfl (aI.aO (.own aV)) aS) ?_;refine ct (E:=Ec) (xs:=[((parts (l.take i))[j]) &&& c,((parts (l.take i))[j]) &&& ~~~c]) (vs:=[_,_]) rfl rfl rfl rfl rfl (by decide) (by decide) fun W0 VU uA=>?_;refine bX IY (uA.aU aM) rfl rfl rfl rfl (by show ((refine ((parts (l.take i)).take j) c).length+2)*32≤_;omega) (by show (refine ((parts (l.take i)).take j) c).length+2≤_;omega) rfl bh fun MT MU Ia q7=>?_;refine oA (ak (aq (xZ bL (ae ?_))));refine oS sD (oM (ak ?_))
           have dV:=m9 (parts (l.take i)) c hj
           have hr:oE c ((parts (l.take i))[j]) = [((parts (l.take i))[j]) &&& c,((parts (l.take i))[j]) &&& ~~~c]:=by simp[oE,h1,h2]
           exact av (cd (j+1,_,_,Ia) ⟨by omega,by rw[dV,hr];exact q7⟩ (by first|omega|(dsimp only;omega)) (by refine Sub.cons rfl (Sub.fY rfl (by rw[dV,hr]) aH)) aP)
   · skip
     refine ay ?_;refine ad (ad (ag (xZ bw (ae (oM (oA (ak (aq (xZ cj (ae ?_))))))))));refine oS sD (oM (ak ?_))
     have jE:(parts (l.take i)).take j=(parts (l.take i)):=List.take_of_length_le (by omega)
     have UQ:=DP l cH
     rw[← jq] at UQ
     exact av (cd (i+1,b2,m2,S2) ⟨by omega,by rw[UQ];rw[jE] at IY;exact IY⟩ (by first|omega|(dsimp only;omega)) (by refine Sub.cons rfl (Sub.fY rfl (by rw[UQ,jE]) aH)) (by exact HSub.iB bh))
 · skip
   have jE:l.take i=l:=List.take_of_length_le (by omega)
   rw[jE] at hS B7 qH
   refine ay ?_;refine ad (ad (ag (xZ bK (ah fun _ eb=>?_))));refine cR fun _ dL=>?_;refine oM ?_;refine oS sC (oM (oZ dL (ai ?_)))
   rw[jE]
   refine cY (fun (i2:Nat)(S3:Hp)=>i2≤(parts l).length∧aG Ec 4 39 (.slice b (parts l).length m) (gQ (parts l) i2) S3) (fun (i2:Nat)(S3:Hp)=>[(56,.int .i64 i2)]) [(2,_),(3,_),(55,_)] (fun (i2:Nat)(S3:Hp)=>S3) (fun (i2:Nat)(S3:Hp)=>(parts l).length-i2) 0 S ⟨by omega,hS⟩ aH aH (by exact HSub.iB bh) ?_
   rintro i2 S3 ⟨Ie,hS3⟩
   refine cR fun _ dR=>?_;refine oS (aF rfl rfl) ?_;refine oZ dR (ah fun _ dk=>?_);refine cx rfl (fun UG=>?_) (fun UG=>?_)
   · skip
     refine ax (xZ dk (ah fun _ dE=>?_));refine ai (cR fun _ dS=>?_);refine oM (oA (oZ dS (cR fun _ dW=>?_)));refine oM (oA (oZ dW (ai ?_)));refine dt (fun (k:Nat)(M:List Cl)(S4:Hp)=>k≤i2∧M.length=(parts l).length∧sink M k=sink (gQ (parts l) i2) i2∧aG Ec 4 39 (.slice b (parts l).length m) M S4) (fun (k:Nat)(M:List Cl)(S4:Hp)=>[(12,.int .i64 k)]) [(2,_),(3,_),(11,_),(55,_),(56,_),(57,_),(58,_),(59,_)] (fun (k:Nat)(M:List Cl)(S4:Hp)=>S4) (fun (k:Nat)(M:List Cl)(S4:Hp)=>k) i2 (gQ (parts l) i2) S3 ⟨Nat.le_refl _,oG _ _,rfl,hS3⟩ aH aH (by exact HSub.iB bh) ?_
     rintro k M S4 ⟨hk,hML,zo,Vb⟩
     refine ah fun _ ee=>?_;refine ah fun _ eh=>?_;refine iA (by kernel_rfl) ?_;refine .op rfl (ba rfl) ?_
     by_cases o6:0<k
     · skip
       refine .op rfl (ab (v':=.bool true) (eX rfl rfl) (congrArg Value.bool (decide_eq_true (by omega)))) ?_;refine .op rfl (ba rfl) ?_
       obtain⟨q,rfl⟩:∃ q,k=q+1:=⟨k-1,by omega⟩
       have hg1:=BI (l:=M) (k:=q+1) (by omega)
       have hg0:=BI (l:=M) (k:=q) (by omega)
       refine .yes rfl rfl rfl (ba rfl) ?_;refine .yes rfl rfl rfl (ba rfl) ?_;refine .yes rfl rfl rfl (au rfl rfl B7 (by omega)) ?_;refine .yes rfl rfl rfl (aD rfl ((Vb.aU aM).gx (q+1) hg1 (by omega)) rfl) ?_;refine .call (fun _ fr=>by rw[eT fr rfl rfl rfl];rfl) rfl rfl rfl (BJ (M.getD (q+1) 0)) (fun w st=>dI hw.2 st HSub.nil) ?_;refine .yes rfl rfl rfl (ba rfl) ?_;refine .yes rfl rfl rfl (ba rfl) ?_;refine .yes rfl rfl rfl (ab (v':=.int .i64 ((q:Nat):Int)) (AY rfl rfl (by omega)) (congrArg _ (by omega))) ?_;refine .yes rfl rfl rfl (au rfl rfl B7 (by omega)) ?_;refine .yes rfl rfl rfl (aD rfl ((Vb.aU aM).gx q hg0 (by omega)) rfl) ?_;refine .call (fun _ fr=>by rw[eT fr rfl rfl rfl];rfl) rfl rfl rfl (BJ (M.getD q 0)) (fun w st=>dI hw.2 st HSub.nil) ?_
       by_cases aal:least (M.getD (q+1) 0)<least (M.getD q 0)
       · skip
         refine .yes rfl rfl rfl (ab (v':=.bool true) (aF rfl rfl) (congrArg Value.bool (decide_eq_true (by omega)))) ?_;refine .op rfl (u7 rfl rfl) ?_;refine .nil ?_;refine xZ eh ?_;refine gp ee (ah fun _ eD=>?_);refine ai ?_;refine aK (S4) (fun i=>Nat.beq i 15||Nat.beq i 16||Nat.beq i 17) ?_;refine eP 0 rfl sM ?_;refine eP 1 rfl sM ?_;refine eP 2 rfl sM ?_;refine eP 3 rfl sM ?_;refine eP 4 rfl (ab (v':=.int .i64 ((q:Nat):Int)) (AY rfl rfl (by omega)) (congrArg _ (by omega))) ?_;refine eP 5 rfl sM ?_;refine eP 6 rfl sM ?_;refine eP 7 rfl (ab (v':=.int .i64 ((q:Nat):Int)) (AY rfl rfl (by omega)) (congrArg _ (by omega))) ?_;refine eP 8 rfl (au rfl rfl B7 (by omega)) ?_;refine eP 10 rfl sM ?_;refine eP 11 rfl sM ?_;refine eP 12 rfl (au rfl rfl B7 (by omega)) ?_;refine eK 9 rfl (aD rfl ((Vb.aU aM).gx q hg0 (by omega)) rfl) ?_;refine eK 13 rfl (aD rfl ((Vb.aU aM).gx (q+1) hg1 (by omega)) rfl) ?_;refine eO 14 rfl ?_;refine oS (au rfl rfl B7 (by omega)) ?_;refine oX (eO 15 rfl ?_);refine lX (q+1) (M.getD q 0) Vb bh rfl rfl (by first|(simp;omega)|omega) (by omega) fun S9 hS9=>?_;refine ak ?_;refine cE rfl ?_;refine eO 16 rfl ?_;refine oS (au rfl rfl B7 (by omega)) ?_;refine ak ?_;refine cE rfl ?_;refine eO 17 rfl ?_;refine lX (q) (M.getD (q+1) 0) hS9 bh rfl rfl (by first|(simp;omega)|omega) (by omega) fun V8 UM=>?_
         refine ak ?_;refine cE rfl ?_;refine cw (by kernel_rfl) ?_;refine aq (xZ eD (ae (oM ?_)));refine oS (ab (v':=.int .i64 ((q:Nat):Int)) (AY rfl rfl (by omega)) (congrArg _ (by omega))) ?_;refine oA (ak ?_);exact av (cd (q,swap M q,V8) ⟨by omega,by rw[Bt];exact hML,by rw[← zo];exact (Mi aal).symm,UM⟩ (by first|omega|(dsimp only;omega)) aH (by exact HSub.iB bh))
       · skip
         refine .yes rfl rfl rfl (ab (v':=.bool false) (aF rfl rfl) (congrArg Value.bool (decide_eq_false (by omega)))) ?_;refine .op rfl (u7 rfl rfl) ?_;refine .nil ?_;refine xZ eh ?_;refine cF ?_;refine ay ?_;refine ad (ad (ag (aq (xZ dE (ae ?_)))));refine oS sD (oM (ak ?_));exact xI (i2+1,S4) ⟨by omega,by show aG Ec 4 39 (.slice b (parts l).length m) (gQ (parts l) (i2+1)) S4;unfold gQ;rw[← zo,Ps aal];exact Vb⟩
     · skip
       refine .op rfl (ab (v':=.bool false) (eX rfl rfl) (congrArg Value.bool (decide_eq_false (by omega)))) ?_;refine .op rfl (ba rfl) ?_;refine .no rfl rfl rfl rfl ?_;refine .no rfl rfl rfl rfl ?_;refine .no rfl rfl rfl rfl ?_;refine .no rfl rfl rfl rfl ?_;refine .no rfl rfl rfl rfl ?_;refine .no rfl rfl rfl rfl ?_;refine .no rfl rfl rfl rfl ?_;refine .no rfl rfl rfl rfl ?_;refine .no rfl rfl rfl rfl ?_;refine .no rfl rfl rfl rfl ?_;refine .no rfl rfl rfl rfl ?_;refine .no rfl rfl rfl rfl ?_;refine .op rfl (AX rfl rfl) ?_;refine .nil ?_;refine xZ eh ?_;refine cF ?_;refine ay ?_;refine ad (ad (ag (aq (xZ dE (ae ?_)))));refine oS sD (oM (ak ?_))
       obtain rfl:k=0:=by omega
       exact xI (i2+1,S4) ⟨by omega,by show aG Ec 4 39 (.slice b (parts l).length m) (gQ (parts l) (i2+1)) S4;unfold gQ;rw[← zo];exact Vb⟩
   · skip
     obtain rfl:i2=(parts l).length:=by omega
     refine ay ?_;refine ad ?_;refine ad ?_;refine ag ?_;refine av (eb _ _ ?_);refine ah fun _ dN=>?_;refine ae ?_;refine cP rfl (ba rfl) ?_;refine cP rfl (dF rfl) ?_;refine ak ?_;refine av (dN _ _ ?_);refine aA ?_;refine ?_;exact cr rfl (.tmp rfl (.nil)) (⟨b,m,by rw[qB];rfl,by rw[qB];exact hS3⟩)
end Go.Proofs.YtmompllplidphaaGreatDoor
namespace Go.Proofs.YtmompllplidphaaGreatDoor
open Go Go.HL Go.Proofs Go.HL.Kl Go.HL.Kl.Mc Go.HL.cm
set_option maxHeartbeats 2000000 in
theorem J9 (bx:Nat)(ra:Option Addr)(rc Ka:Nat)(X:fk)(S:Hp)(hP:xA bx ra rc Ka X S)(root:Pt)(aa:Option Addr)(ac:Nat)(atoms:List Kl.Cl)(hx:X.fol.length=X.sets.length)(XS:X.sets.length≤20)(wo:atoms.length≤256):HL.Fn Tryz.prog 41 [.pointer (some ⟨bx,0,none⟩),.agg (dm (root)).toArray,.slice aa atoms.length ac] (fun w=>Rd Ec w (.slice aa atoms.length ac) atoms∧ew (keys S) (.slice aa atoms.length ac)) S (fun v S'=>∃ S2,HSub S' S2∧∃ (na:Option Addr)(nc:Nat)(rows:List (Sl Nat))(ea:Option Addr)(ec:Nat)(Sn Se Sq:Hp),v = .agg [.slice na rows.length nc,.slice ea (dJ X root atoms).ends.length ec].toArray∧S2=Sn++(Se++(Sq++S))∧aG cX 1 36 (.slice na rows.length nc) rows Sn∧aG fR 1 4 (.slice ea (dJ X root atoms).ends.length ec) (dJ X root atoms).ends Se∧cG jo 1 3 rows (dJ X root atoms).next Sq∧(dJ X root atoms).next=rows.map Sl.xs∧(dJ X root atoms).met.Nodup∧(dJ X root atoms).next.length=(dJ X root atoms).met.length+1∧(dJ X root atoms).ends.length=(dJ X root atoms).met.length+1):=by
 refine aW Tryz.func41 rfl rfl rfl fun w0 hw=>?_
 have dr:=hw.1.sl
 have s3:=dr.le
 obtain⟨sa,sc,fa,fc,Ss,Sf,rfl,hs,hf⟩:=hP
 have B7:=hs.sl
 have Ol:=hf.sl
 have p5:=xB X.sets atoms
 refine cR fun _ bI=>?_;refine cB rfl rfl rfl fun b4=>?_;refine cB rfl rfl rfl fun b5=>?_;refine aB rfl rfl fun b6=>?_;refine oZ bI (cR fun _ bJ=>?_);refine oS sL ?_;refine oS sC ?_;refine lD (E:=E3) (zx:=(0:Sp)) (n:=atoms.length) rfl rfl rfl (by omega) (by omega) rfl fun Om V1 C9=>?_
 rw[← pe] at C9
 have Th:=C9.sl
 rw[eQ (Nat.zero_le _)] at Th
 refine aB rfl rfl fun b7=>?_;refine bg rfl rfl rfl bY kD rfl ?_;refine oZ bJ (ah fun _ bK=>?_);refine cR fun _ bU=>?_;refine oS sL ?_;refine oS sC (oM (oZ bU (ai ?_)));refine cY (fun (k:Nat)(Sr:Hp)=>k≤atoms.length∧aG E3 3 90 (.slice (some ⟨Om,0,none⟩) atoms.length atoms.length) (jR 0 ((fI X.sets atoms).take k) atoms.length) Sr) (fun (k:Nat)(Sr:Hp)=>[(25,.int .i64 k)]) [(0,_),(4,_),(5,_),(6,_),(7,_),(23,_),(24,_)] (fun (k:Nat)(Sr:Hp)=>(b7,.cells [.slice (some ⟨Om,0,none⟩) atoms.length atoms.length].toArray 84 (0,0))::(b5,.cells [.slice aa atoms.length ac].toArray 26 (0,0))::(b4,.cells (dm (root)).toArray 93 (0,0))::(b6,.cells [.slice none 0 0,.slice none 0 0].toArray 96 (0,0))::(Sr++((bx,.cells [.slice ra Ka rc,.slice sa X.sets.length sc,.slice fa X.fol.length fc].toArray 86 (0,0))::(Sf++Ss)))) (fun (k:Nat)(Sr:Hp)=>atoms.length-k) 0 V1 ⟨Nat.zero_le _,C9⟩ aH aH aP ?_
 rintro k Sr ⟨hk,hR⟩
 refine cR fun _ bT=>?_;refine oS (aF rfl rfl) ?_;refine oZ bT (ah fun _ bZ=>?_);refine cx rfl (fun cH=>?_) (fun cH=>?_)
 ·obtain⟨a,B8⟩:∃ a,atoms[k]?=some a:=gE
  have Ge:=qd (l:=(fI X.sets atoms)) (k:=k) (by omega)
  refine ax (xZ bZ (ah fun _ cj=>?_));refine ai (cR fun _ ck=>?_);refine oM ?_;refine oS (au rfl rfl dr (by omega)) ?_;refine oS (aD rfl ((cq.old (κ:=⟨_,[],w0,_⟩) hw.1 hw.2).gx k B8 (by simp only[Int.toNat_natCast])) aS) ?_;refine aB (l:=Ec 0#256) (by rw[bk];rfl) rfl fun b9=>?_;refine oA ?_;refine bf rfl rfl bY aS aS fE ?_;refine oZ ck (cR fun _ cQ=>?_);refine oM ?_;refine oS sN ?_;refine oS sF ?_;refine oS sL ?_;refine oS sC (oM (oZ cQ (ai ?_)));refine cY (fun (p:Nat)(Ti:Hp)=>p≤X.sets.length∧aG E3 3 90 (.slice (some ⟨Om,0,none⟩) atoms.length atoms.length) ((jR 0 ((fI X.sets atoms).take k) atoms.length).set k (nK X.sets a p)) Ti) (fun (p:Nat)(Ti:Hp)=>[(35,.int .i64 p)]) [(0,_),(4,_),(5,_),(6,_),(7,_),(8,_),(9,_),(23,_),(24,_),(25,_),(26,_),(27,_),(28,_),(29,_),(30,_),(31,_),(32,_),(33,_),(34,_)] (fun (p:Nat)(Ti:Hp)=>(b9,.cells (Ec a).toArray 39 (0,0))::(b7,.cells [.slice (some ⟨Om,0,none⟩) atoms.length atoms.length].toArray 84 (0,0))::(b5,.cells [.slice aa atoms.length ac].toArray 26 (0,0))::(b4,.cells (dm (root)).toArray 93 (0,0))::(b6,.cells [.slice none 0 0,.slice none 0 0].toArray 96 (0,0))::(Ti++((bx,.cells [.slice ra Ka rc,.slice sa X.sets.length sc,.slice fa X.fol.length fc].toArray 86 (0,0))::(Sf++Ss)))) (fun (p:Nat)(Ti:Hp)=>X.sets.length-p) 0 Sr ⟨Nat.zero_le _,by rw[show nK X.sets a 0=0 from rfl,wX Ge (by omega)];exact hR⟩ aH aH aP ?_
  rintro p Ti ⟨hp,XT⟩
  refine cR fun _ bw=>?_;refine oS (aF rfl rfl) ?_;refine oZ bw (ah fun _ bF=>?_);refine cx rfl (fun hlp=>?_) (fun hlp=>?_)
  ·obtain⟨cp,hcp⟩:∃ c,X.sets[p]?=some c:=gE
   refine ax (xZ bF (ah fun _ bD=>?_));refine ai (cR fun _ cb=>?_);refine oM ?_;refine oS (au rfl rfl B7 (by omega)) ?_;refine oS (aD rfl ((hs.aU aM).gx p hcp (by simp only[Int.toNat_natCast])) aS) ?_;refine aB (l:=Ec 0#256) (by rw[bk];rfl) rfl fun M9=>?_;refine oA ?_;refine bf rfl rfl bY aS aS fE ?_;refine oZ cb (cR fun _ bL=>?_);refine oS (aD rfl (aI.aO (.own aV)) aS) ?_;refine oS (aD rfl (aI.aO (.own aV)) aS) ?_;refine ar (dK cp a) rfl rfl rfl (fun _ _=>trivial) (fun v42 Kb=>?_);subst Kb
   refine oS (fX rfl) ?_
   by_cases dM:cp &&& a≠0#256
   ·refine oS (ab (v':=.bool true) (gb (c:=cp &&& a) (d:=0#256) rfl (by rw[bk];rfl)) (congrArg Value.bool (decide_eq_true dM))) ?_;refine oZ bL ?_;refine cT ?_;refine aK ((M9,.cells (Ec cp).toArray 39 (0,0))::(b9,.cells (Ec a).toArray 39 (0,0))::(b7,.cells [.slice (some ⟨Om,0,none⟩) atoms.length atoms.length].toArray 84 (0,0))::(b5,.cells [.slice aa atoms.length ac].toArray 26 (0,0))::(b4,.cells (dm (root)).toArray 93 (0,0))::(b6,.cells [.slice none 0 0,.slice none 0 0].toArray 96 (0,0))::(Ti++((bx,.cells [.slice ra Ka rc,.slice sa X.sets.length sc,.slice fa X.fol.length fc].toArray 86 (0,0))::(Sf++Ss)))) (fun i=>Nat.beq i 9) ?_;refine eK 0 rfl sL ?_;refine eP 1 rfl sM ?_;refine eK 2 rfl sL ?_;refine eP 3 rfl sM ?_;refine eP 4 rfl (au rfl rfl Th (by omega)) ?_;refine eK 5 rfl (aD rfl ((XT.aU aM).gx k (Kc Ge (by omega)) (by simp only[Int.toNat_natCast])) aS) ?_;refine eP 6 rfl sM (eO 7 rfl ?_);refine ar (Fj (nK X.sets a p) p (by omega)) rfl rfl rfl (fun _ _=>trivial) (fun v52 uC=>?_);subst uC
    refine oX ?_;refine eP 8 rfl (au rfl rfl Th (by omega)) ?_;refine eO 9 rfl ?_;refine lX k (nK X.sets a p ||| xd p) XT bh rfl rfl (by rw[List.length_set,eQ (by omega)];omega) (by simp only[Int.toNat_natCast]) fun XU G1=>?_
    rw[List.set_set] at G1
    refine ak ?_;refine cE rfl ?_;refine cw (by kernel_rfl) ?_;refine aq (xZ bD (ae ?_));refine oS sD (oM (ak ?_));exact xI (p+1,_) ⟨by omega,by rw[Kd hcp dM];exact G1⟩
   ·refine oS (ab (v':=.bool false) (gb (c:=cp &&& a) (d:=0#256) rfl (by rw[bk];rfl)) (congrArg Value.bool (decide_eq_false dM))) ?_;refine oZ bL ?_;refine cF (ax (aq (xZ bD (ae ?_))));refine oS sD (oM (ak ?_));exact xI (p+1,_) ⟨by omega,by rw[On hcp dM];exact XT⟩
  ·obtain rfl:p=X.sets.length:=by omega
   rw[iE Ge (by omega)] at XT
   refine ay ?_;refine ad (ad (ag (aq (xZ cj (ae ?_)))));refine oS sD (oM (ak ?_));exact xI (k+1,_) ⟨by omega,by rw[aY (rk B8)];exact XT⟩
 ·obtain rfl:k=atoms.length:=by omega
  have hT:(fI X.sets atoms).take atoms.length=(fI X.sets atoms):=by rw[← p5,List.take_length]
  rw[hT,nk p5] at hR
  refine ay ?_;refine ad (ad (ag (xZ bK (cR fun _ bQ=>?_))));refine aB rfl rfl fun kb=>?_;refine oZ bQ (cR fun _ cO=>?_);refine sZ (Ek:=Na) rfl fun XV=>?_;refine aB rfl rfl fun rT=>?_;refine bg rfl rfl rfl bY kD rfl ?_;refine oZ cO (cR fun _ df=>?_);refine aB rfl rfl fun rz=>?_;refine oZ df (cR fun _ cZ=>?_);refine oS (yk (us:=[]) (vs:=[_,_]) rfl rfl) ?_;refine aB rfl rfl fun v3=>?_;refine bg rfl rfl rfl bY kD rfl ?_;refine oZ cZ (ah fun _ dq=>?_)
  have XW:Tj rT rz [] [(rT,.cells [.map (some XV)].toArray 159 (0,0)),(XV,jd Na [] 0),(rz,.cells [.slice none 0 0].toArray 84 (0,0))]:=⟨XV,[],0,none,0,[],rfl,aG.nil,List.nodup_nil,fun s=>rfl⟩
  have ad3:WdS kb [] [] [(kb,.cells [.slice none 0 0,.slice none 0 0].toArray 96 (0,0))]:=⟨none,0,[],none,0,[],[],[],rfl,aG.nil,aG.nil,.nil,rfl⟩
  refine ae ?_;refine oS (yk (us:=[]) (vs:=[_,_,_,_]) rfl rfl) ?_;refine oA (oZ dq (cR fun _ dG=>?_));refine oM ?_;refine oS sF ?_;refine oS (aQ rfl rfl (by omega)) ?_;refine oS (aD rfl ((aI.aO (aI.l3 aV (r5 (i:=1) (by omega) (by omega))))) aS) ?_;refine oS sF ?_;refine oS (aQ rfl rfl (by omega)) ?_;refine oS (aQ rfl rfl (by omega)) ?_;refine oS (az rfl (.own aV (qe (i:=1) (k:=1) (by omega) (by omega) (by omega)))) ?_;refine ff (us:=[]) (vs:=[_,_]) (cs:=[.pointer (some ⟨b5,0,none⟩),.pointer (some ⟨b7,0,none⟩),.pointer (some ⟨v3,0,none⟩),.pointer (some ⟨kb,0,none⟩)]) (Ke b5 b7 kb rT rz v3 aa atoms.length ac (some ⟨Om,0,none⟩) atoms.length atoms.length (fI X.sets atoms) Sr hR p5.symm p5.symm (by omega) [] _ XW [] [] _ ad3 (by simp) (by simp) (oB root 1) (jX root 1 1)) rfl rfl rfl ((aJ.bR bh (aJ.bR bh (aJ.bR bh (aJ.cy bh (aJ.cy bh (aJ.bR bh (aJ.bR bh bh)))))))) (fun _ _=>trivial) (fun v67 S67 ⟨SS0,SW0,ad4,ad5,hW0⟩=>?_)
  subst ad4;refine oZ dG (ah fun _ eb=>?_);refine cR fun _ dL=>?_;refine oA (oZ dL (ai ?_));refine fM (fun (q:Nat)(W:Wd)(SW:Hp)(SS:Hp)=>gF X.fol (fI X.sets atoms) root.l1 (full-q) q W=dJ X root atoms∧q≤full∧Tj rT rz W.met SS∧WdS kb W.next W.ends SW∧W.next.length=q+1∧W.ends.length=q+1∧q≤W.met.length) (fun (q:Nat)(W:Wd)(SW:Hp)(SS:Hp)=>[(17,.int .i64 q)]) [(0,_),(4,_),(6,_),(12,_),(14,_),(16,_)] (fun (q:Nat)(W:Wd)(SW:Hp)(SS:Hp)=>(v3,.cells [.func (.func 106) [].toArray [.pointer (some ⟨rT,0,none⟩),.pointer (some ⟨rz,0,none⟩)].toArray].toArray 160 (0,0))::(b7,.cells [.slice (some ⟨Om,0,none⟩) atoms.length atoms.length].toArray 84 (0,0))::(b5,.cells [.slice aa atoms.length ac].toArray 26 (0,0))::(b4,.cells (dm (root)).toArray 93 (0,0))::(b6,.cells [.slice none 0 0,.slice none 0 0].toArray 96 (0,0))::(Sr++(SW++(SS++((bx,.cells [.slice ra Ka rc,.slice sa X.sets.length sc,.slice fa X.fol.length fc].toArray 86 (0,0))::(Sf++Ss)))))) (fun (q:Nat)(W:Wd)(SW:Hp)(SS:Hp)=>full-q) 0 (ur (fI X.sets atoms) root) SW0 SS0 ⟨rfl,Nat.zero_le _,ad5,hW0,rfl,rfl,Nat.zero_le _⟩ aH aH aP ?_
  rintro q W SW SS ⟨ic,hqf,V2,hW,wY,kH,hqm⟩
  have Fk:=kO V2.choose_spec.choose_spec.choose_spec.choose_spec.choose_spec.choose_spec.2.2.1
  obtain⟨bm,es,c,ma,mc,Sm,rfl,hO,yg,hg⟩:=V2
  have hms:=hO.sl
  refine ah fun _ dR=>?_;refine cR fun _ dk=>?_;refine oM ?_;refine oS sL ?_;refine oS sC ?_;refine oS (aF rfl rfl) ?_;refine oZ dk ?_;refine cx rfl (fun IC=>?_) (fun IC=>?_)
  ·obtain⟨s,tC⟩:∃ s,W.met[q]?=some s:=gE
   have uE:=Da (fol:=X.fol) (rds:=(fI X.sets atoms)) (l1:=root.l1) (f:=full-q) (q:=q) (w:=W) (by omega) yg (by omega)
   rw[show full-q-1=full-(q+1) by omega] at uE
   have dV:lP X.fol (fI X.sets atoms) root.l1 q W=(⟨(dY (fI X.sets atoms) (eF X.fol s X.fol.length) W.met).2,W.next++[(dY (fI X.sets atoms) (eF X.fol s X.fol.length) W.met).1],W.ends++[decide (s &&& mF root 1≠0)]⟩:Wd):=by simp only[lP,Wd.row,tC,Option.getD_some];rfl
   rw[dV] at uE
   have aiS:=jm (eF X.fol s X.fol.length) (fI X.sets atoms) W.met
   refine ax (xZ dR (ah fun _ dE=>?_));refine ai (cR fun _ dS=>?_);refine aB (l:=E3 0) (by rfl) rfl fun Kf=>?_;refine oZ dS (ah fun _ dW=>?_);refine cR fun _ ee=>?_;refine oM ?_;refine oS sN ?_;refine oS sF ?_;refine oS sL ?_;refine oS sC (oM (oZ ee (ai ?_)));refine aL (fun (p:Nat)=>p≤X.fol.length) (fun (p:Nat)=>[(79,.int .i64 p)]) [(0,_),(4,_),(6,_),(12,_),(14,_),(16,_),(17,_),(18,_),(68,_),(69,_),(70,_),(71,_),(74,_),(75,_),(76,_),(77,_),(78,_)] (fun (p:Nat)=>(Kf,.cells (E3 (eF X.fol s p)).toArray 90 (0,0))::(rT,.cells [.map (some bm)].toArray 159 (0,0))::(bm,jd Na es c)::(rz,.cells [.slice ma (W.met).length mc].toArray 84 (0,0))::(Sm++((v3,.cells [.func (.func 106) [].toArray [.pointer (some ⟨rT,0,none⟩),.pointer (some ⟨rz,0,none⟩)].toArray].toArray 160 (0,0))::(b7,.cells [.slice (some ⟨Om,0,none⟩) atoms.length atoms.length].toArray 84 (0,0))::(b5,.cells [.slice aa atoms.length ac].toArray 26 (0,0))::(b4,.cells (dm (root)).toArray 93 (0,0))::(b6,.cells [.slice none 0 0,.slice none 0 0].toArray 96 (0,0))::(Sr++(SW++((bx,.cells [.slice ra Ka rc,.slice sa X.sets.length sc,.slice fa X.fol.length fc].toArray 86 (0,0))::(Sf++Ss))))))) (fun (p:Nat)=>X.fol.length-p) 0 (Nat.zero_le _) aH aH aP ?_
   rintro p hp
   refine cR fun _ eh=>?_;refine oS (aF rfl rfl) ?_;refine oZ eh (ah fun _ eD=>?_);refine cx rfl (fun hlf=>?_) (fun hlf=>?_)
   ·obtain⟨fp,hfp⟩:∃ f,X.fol[p]?=some f:=gE
    refine ax (xZ eD (ah fun _ dN=>?_));refine ai (cR fun _ e6=>?_);refine oM (oA (oZ e6 (cR fun _ du=>?_)));refine oS sL (oM ?_);refine oS (au rfl rfl hms (by omega)) ?_;refine oS (aD rfl ((hO.aU aM).gx q tC (by simp only[Int.toNat_natCast])) aS) ?_;refine oM ?_;refine ar (Fl s p (by omega)) rfl rfl rfl (fun _ _=>trivial) (fun v87 ad6=>?_);subst ad6
    cases hb:BitVec.getLsbD s p
    ·refine oZ du ?_;refine cF (ax (aq (xZ dN (ae ?_))));refine oS sD (oM (ak ?_));exact av (cd (p+1) (by omega) (by first|omega|(dsimp only;omega)) aH (by rw[Kg hb];exact aP))
    ·refine oZ du ?_;refine cT ?_;refine aK ((Kf,.cells (E3 (eF X.fol s p)).toArray 90 (0,0))::(Sf++[(bx,.cells [.slice ra Ka rc,.slice sa X.sets.length sc,.slice fa X.fol.length fc].toArray 86 (0,0)),(rz,.cells [.slice ma (W.met).length mc].toArray 84 (0,0))])) (fun i=>Nat.beq i 9) ?_;refine eK 0 rfl (aD rfl (aI.aO (.own aV)) aS) ?_;refine eP 1 rfl sM ?_;refine eP 2 rfl sN ?_;refine eP 3 rfl sF ?_;refine eK 4 rfl sL ?_;refine eP 5 rfl sM ?_;refine eP 6 rfl (au rfl rfl Ol (by omega)) ?_;refine eK 7 rfl (aD rfl ((hf.aU aM).gx p hfp (by simp only[Int.toNat_natCast])) aS) ?_;refine eO 8 rfl ?_;refine ar (rA (eF X.fol s p) fp) rfl rfl rfl (fun _ _=>trivial) (fun v96 XX=>?_)
     rw[← G2 hfp hb] at XX
     subst XX;refine oX (eO 9 rfl ?_);refine bf rfl rfl bY aS aS fE ?_;refine ak ?_;refine cE rfl ?_;refine cw (by kernel_rfl) ?_;refine aq (xZ dN (ae ?_));refine oS sD (oM (ak ?_));exact xI (p+1) (by omega)
   ·obtain rfl:p=X.fol.length:=by omega
    refine ay ?_;refine ad (ad (ag (xZ dW ?_)));refine aK ((Kf,.cells (E3 (eF X.fol s X.fol.length)).toArray 90 (0,0))::(b4,.cells (dm (root)).toArray 93 (0,0))::(rz,.cells [.slice ma (W.met).length mc].toArray 84 (0,0))::Sm) (fun i=>Nat.beq i 10) ?_;refine eP 0 rfl sM ?_;refine kd 1 rfl (by kernel_rfl) (by kernel_rfl) (by kernel_rfl) 40 (by kernel_rfl) (by kernel_rfl) (fun _ _=>rfl) rfl aP (aD rfl (aI.aO (.own aV)) aS) ?_;refine kd 2 rfl (by kernel_rfl) (by kernel_rfl) (by kernel_rfl) 40 (by kernel_rfl) (by kernel_rfl) (fun _ _=>rfl) rfl aP (az rfl (.own aV rfl)) ?_;refine eP 3 rfl sM ?_;refine eP 4 rfl (au rfl rfl hms (by omega)) ?_;refine kd 5 rfl (by kernel_rfl) (by kernel_rfl) (by kernel_rfl) 40 (by kernel_rfl) (by kernel_rfl) (fun _ _=>rfl) rfl aP (aD rfl ((hO.aU aM).gx q tC (by simp only[Int.toNat_natCast])) aS) ?_;refine eP 6 rfl sF ?_;refine eP 7 rfl (aQ rfl rfl (by omega)) ?_;refine kd 8 rfl (by kernel_rfl) (by kernel_rfl) (by kernel_rfl) 40 (by kernel_rfl) (by kernel_rfl) (fun _ _=>rfl) rfl aP (aD rfl ((aI.aO (aI.l3 aV (r6 (i:=1) (by omega) (by omega))))) aS) ?_;refine eO 9 rfl ?_;refine ar (Kh s (mF root 1)) rfl rfl rfl (fun _ _=>trivial) (fun ans XY=>?_);subst XY
    refine oX (eO 10 rfl ?_);refine ff (us:=[]) (vs:=[_,_]) (cs:=[.pointer (some ⟨b5,0,none⟩),.pointer (some ⟨b7,0,none⟩),.pointer (some ⟨v3,0,none⟩),.pointer (some ⟨kb,0,none⟩)]) (Ke b5 b7 kb rT rz v3 aa atoms.length ac (some ⟨Om,0,none⟩) atoms.length atoms.length (fI X.sets atoms) Sr hR p5.symm p5.symm (by omega) W.met _ ⟨bm,es,c,ma,mc,Sm,rfl,hO,yg,hg⟩ W.next W.ends SW hW (by omega) (by omega) (eF X.fol s X.fol.length) (decide (s &&& mF root 1≠0))) rfl rfl rfl ((aJ.bR bh (aJ.bR bh (aJ.bR bh (aJ.cy bh (aJ.cy bh (aJ.bR bh (aJ.bR bh (aJ.bR bh bh))))))))) (fun _ _=>trivial) (fun ant WN ⟨SS9,SW9,I6,ad7,hW9⟩=>?_);subst I6
    refine ak ?_;refine cE rfl ?_;refine cw (by kernel_rfl) ?_;refine aq (xZ dE (ae (oM ?_)));refine oS sD (oA (ak ?_));exact xI (q+1,(⟨(dY (fI X.sets atoms) (eF X.fol s X.fol.length) W.met).2,W.next++[(dY (fI X.sets atoms) (eF X.fol s X.fol.length) W.met).1],W.ends++[decide (s &&& mF root 1≠0)]⟩:Wd),SW9,SS9) ⟨by rw[← ic,uE.1],by omega,ad7,hW9,by simp[wY],by simp[kH],by dsimp only;omega⟩
  ·have R4:=ic.symm.trans (G3 (by omega))
   have hqe:q=W.met.length:=by omega
   obtain⟨na,nc,rows,ea,ec,Sn,Se,Sq,rfl,hn,he,hq,we⟩:=hW
   rw[hqe] at wY kH
   subst R4;refine ay ?_;refine ad (ad (ag (xZ eb (cR fun _ fF=>?_))));refine oS (aD rfl (aI.aO (.own aV)) aS) ?_;refine bf rfl rfl bY aS aS fE ?_;refine oZ fF (aA ?_);refine ?_;exact cr rfl (.agg inferInstance inferInstance rfl (aI.aO (.own aV)) aS (.nil)) (⟨Sn++(Se++(Sq++((bx,.cells [.slice ra Ka rc,.slice sa X.sets.length sc,.slice fa X.fol.length fc].toArray 86 (0,0))::(Sf++Ss)))),by exact aP,na,nc,rows,ea,ec,Sn,Se,Sq,rfl,rfl,hn,he,hq,we,yg,wY,kH⟩)
set_option maxHeartbeats 2000000 in
theorem Oo (bx:Nat)(ra:Option Addr)(rc Ka:Nat)(X:fk)(S:Hp)(hP:xA bx ra rc Ka X S)(root:Pt)(aa:Option Addr)(ac:Nat)(atoms:List Kl.Cl)(hx:X.fol.length=X.sets.length)(XS:X.sets.length≤20)(wo:atoms.length≤256):HL.Fn Tryz.prog 41 [.pointer (some ⟨bx,0,none⟩),.agg (dm (root)).toArray,.slice aa atoms.length ac] (fun w=>Rd Ec w (.slice aa atoms.length ac) atoms∧ew (keys S) (.slice aa atoms.length ac)) S (fun v S'=>∃ (na:Option Addr)(nc:Nat)(rows:List (Sl Nat))(ea:Option Addr)(ec:Nat)(Sn Se Sq:Hp),v = .agg [.slice na rows.length nc,.slice ea (dJ X root atoms).ends.length ec].toArray∧S'=Sn++(Se++(Sq++S))∧aG cX 1 36 (.slice na rows.length nc) rows Sn∧aG fR 1 4 (.slice ea (dJ X root atoms).ends.length ec) (dJ X root atoms).ends Se∧cG jo 1 3 rows (dJ X root atoms).next Sq∧(dJ X root atoms).next=rows.map Sl.xs∧(dJ X root atoms).met.Nodup∧(dJ X root atoms).next.length=(dJ X root atoms).met.length+1∧(dJ X root atoms).ends.length=(dJ X root atoms).met.length+1):=
 HL.Fn.sub (J9 bx ra rc Ka X S hP root aa ac atoms hx XS wo) fun v S' ⟨S2,h1,h2⟩=>⟨S2,h1,h2⟩
end Go.Proofs.YtmompllplidphaaGreatDoor
