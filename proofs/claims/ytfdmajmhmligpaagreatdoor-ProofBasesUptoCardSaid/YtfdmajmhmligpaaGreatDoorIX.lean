/-
 point.spans: the basic columns, and their basis. point.Values' closure: a column that stands at a bound.
-/
import Derived.Test.YtfdmajmhmligpaaGreatDoorIU
namespace Go.Proofs.YtfdmajmhmligpaaGreatDoor
set_option maxHeartbeats 4000000
open Go.RowKit

def zci (f:FoV) (j:Nat):VeV:=(f.cols[j]?).getD ⟨none,0,[]⟩
theorem zbM {f:FoV} {j:Nat} (h:j<f.cols.length):zci f j=f.cols[j]:=by unfold zci;rw[List.getElem?_eq_getElem h];rfl
def basI (st:List Int) (i:Nat):List Nat:=(List.range i).filter fun j=>st[j]?==some 0
theorem zgz {st:List Int} {i:Nat} (h:st[i]?=some 0):basI st (i+1)=basI st i++[i]:=by
 unfold basI;rw[List.range_succ,List.filter_append,List.filter_cons_of_pos (by simp[h])];rfl
theorem zj9 {st:List Int} {i:Nat} (h:st[i]?≠some 0):basI st (i+1)=basI st i:=by
 unfold basI;rw[List.range_succ,List.filter_append,List.filter_cons_of_neg (by simpa using h)];simp
theorem zcK {st:List Int} {i j:Nat} (h:j∈basI st i):j<i∧st[j]?=some 0:=by
 obtain⟨h1,h2⟩:=List.mem_filter.1 h
 exact⟨List.mem_range.1 h1,by simpa using h2⟩
theorem zka (st:List Int) (i:Nat):(basI st i).length≤i:=by
 have:=List.length_filter_le (fun j=>st[j]?==some 0) (List.range i)
 rw[List.length_range]at this;exact this
def zbm (f:FoV) (st:List Int):List VeV:=(basI st f.cols.length).map (zci f)
structure IsB (f:FoV) (st:List Int):Prop where
 len:st.length=f.cols.length
 ok:∀z∈st,z=0∨z=1∨z=2
 m:(basI st f.cols.length).length=f.b.length
 ns:¬Sing f.b.length (colM (zbm f st))
@[reducible] def stc (z:Int):Array Value:=#[.int .u8 z]
@[reducible] def nac (j:Nat):Array Value:=#[.int .i64 (j:Int)]
def SpanRes (n:Nat) (f:FoV) (st:List Int) (w:World) (e:Ending) (w':World):Prop:=
 ∃(ok:Bool) (Aa:Option Addr) (ca:Nat) (b:BaV),e=.returned (.tuple #[if ok then .slice Aa f.b.length ca else .slice none 0 0,if ok then .pointer (some ⟨b.gb,0,none⟩) else .pointer none,.bool ok])∧Below w.heap.size w w'∧(ok=false→¬IsB f st)∧
  (ok=true→IsB f st∧Fac f.b.length (colM (zbm f st)) (·<f.b.length) (b.ss.map SpV.toP)∧LuP f.b.length (nlF n (f.b.length-1)) (2*nlF n (f.b.length-1)+1) b.ss∧Rests w' (w.heap.size≤·) (fun V=>BaD f.b.length b V∧El V 1 Aa ((basI st f.cols.length).map nac)))
theorem SpanRes.no {n:Nat} {f:FoV} {st:List Int} {w w':World} (hb:Below w.heap.size w w') (h:¬IsB f st):SpanRes n f st w (.returned (.tuple #[.slice none 0 0,.pointer none,.bool false])) w':=
 ⟨false,none,0,⟨0,0,none,0,0,none,0,[]⟩,rfl,hb,fun _=>h,fun h=>absurd h (by decide)⟩
theorem GL.app1 {w W:World} {ls:List Ow} {old new:World→Prop} {α:Type} {f:α→Value} {t e:TypeId} {bytes:Nat} {z:Value} {A:Option Addr} {c:Nat} {l:List α} (ht:Tryz.prog.underlying t=some (.slice e)) (hinfo:(Tryz.prog.info? e).map (fun i=>(i.zero,i.size,i.bytes))=some (some z,1,bytes)) (hz:z.cells.size=1) (hb:bytes≤100)
 (h:GL w (⟨e,1,.slice A l.length c,l.map fun x=>#[f x]⟩::ls) old new W) (x:α) (hx:(f x).oneCell'=true) (hl:l.length≤1000):
 ∃A' c' w',(Builtin.append_ #[t,t] t #[.slice A l.length c,.slice (some ⟨W.heap.size,0,none⟩) 1 1]).run Tryz.prog (W.alloc (.cells #[f x] e))=.ok (.slice A' (l++[x]).length c') w'∧GL w (⟨e,1,.slice A' (l++[x]).length c',(l++[x]).map fun x=>#[f x]⟩::ls) old new w':=by
 have hle:=Nat.mul_le_mul (show(l.map fun x=>#[f x]).length+1≤1001 by simp;omega) hb
 obtain⟨v',w',hrun,hG⟩:=GL.app (P:=Tryz.prog) ht hinfo hz (by decide) h h.env #[f x] rfl (fun u hu=>by rw[show u=f x from by simpa using hu];exact hx) (by omega) (by simp[maxLen];omega)
 obtain⟨A',c',hv,-⟩:=(hG.own _ (List.mem_cons_self ..)).form
 have hv':v'=.slice A' (l++[x]).length c':=by rw[show v'=_ from hv];simp
 subst hv'
 refine⟨A',c',w',hrun,?_⟩
 rw[show(l++[x]).map (fun x=>#[f x])=(l.map fun x=>#[f x])++[#[f x]]from by simp]
 exact hG.imp (fun _ h=>h) (fun _ h=>h.2)
theorem zcf (w:World):(sizeOf (Tryz.prog.elem 28)).run Tryz.prog w=.ok 1 w:=by kernel_rfl
set_option maxRecDepth 100000 in
theorem zfB (w:World) (n:Nat) (h1n:1≤n) (f:FoV) (h:FoD n f w) (hS:FSmall f) (hR:FRight f w) (hnl:nlF n 5≤100000000) (SA:Option Addr) (sc:Nat) (st:List Int) (hs:LsR 1 stc (fun _ _=>True) SA st w) (hT:Tz w):Calls Tryz.prog 34 #[fA f,.slice SA st.length sc] w (SpanRes n f st w):=by
 have slC:=h.cols.sl
 have slS:=hs.sl
 have szc:=zaw
 have szi:=zcX
 have szs:=zcf
 have hadd:=zaa
 have HR0:=znd hR
 have HM:=znd (show f.M=((f.b.length:Nat):Int)from hR.b.symm)
 have HSm:=znd hS
 have hN12:f.cols.length≤12:=hS.cols
 have HVW:=znd (show∀v∈f.cols,LsR 5 tecells (teD n) v.A v.ts w from h.cols.ok)
 have HE:=znd (Env.start (h.old.and ((hs.old zdk).and hT.old)))
 obtain⟨W0,hW0⟩:∃W0,W0=w.alloc (.cells #[.int .i64 f.M,.slice f.Ac f.cols.length f.cc,.slice f.Al f.lo.length f.cl,.slice f.Ah f.hi.length f.ch,.slice f.Ak f.cost.length f.ck,.slice f.Ab f.b.length f.cb] 32):=⟨_,rfl⟩
 have HE0:=znd (Env.lay1 HE.out hW0)
 subst hW0
 have HG:=znd (show GL w [] (fun V=>Blk V w.heap.size 32 #[.int .i64 f.M,.slice f.Ac f.cols.length f.cc,.slice f.Al f.lo.length f.cl,.slice f.Ah f.hi.length f.ch,.slice f.Ak f.cost.length f.ck,.slice f.Ab f.b.length f.cb]∧FoD n f V∧LsR 1 stc (fun _ _=>True) SA st V∧Tz V) (fun _=>True) _ from(GL.start HE0.out).imp (fun _ h=>⟨h.1 _ (List.mem_cons_self ..),h.2⟩) (fun _ h=>h))
 clear h hs hT hR hS HE HE0
 by_cases hl:st.length=f.cols.length
 ·have HL:=znd hl
  rw[hl]at slS⊢
  clear hl
  have c:=Blk.cb HG.out.o.1
  unfold fA
  go_enter Tryz.func34,Tryz.ntmps34
  go_wp2_with fail
  clear c
  have HG1:=znd (show GL w [⟨3,1,.slice none (List.length (basI st 0)) 0,List.map nac (basI st 0)⟩,⟨25,1,.slice none (List.length ((basI st 0).map (zci f))) 0,List.map za3 ((basI st 0).map (zci f))⟩] (fun V=>Blk V w.heap.size 32 #[.int .i64 f.M,.slice f.Ac f.cols.length f.cc,.slice f.Al f.lo.length f.cl,.slice f.Ah f.hi.length f.ch,.slice f.Ak f.cost.length f.ck,.slice f.Ab f.b.length f.cb]∧FoD n f V∧LsR 1 stc (fun _ _=>True) SA st V∧Tz V) (fun _=>True) _ from(HG.out.new_ 25 1).new_ 3 1)
  clear HG
  have HG:=HG1
  clear HG1
  go_loopw [7,8,21] (fun av cv iv wr=>∃(i:Nat) (Aa:Option Addr) (ca:Nat) (Ab:Option Addr) (cb:Nat),av=.slice Aa (basI st i).length ca∧cv=.slice Ab (basI st i).length cb∧iv=.int .i64 (i:Int)∧i≤f.cols.length∧Hid (∀j,j<i→∀z,st[j]?=some z→z=0∨z=1∨z=2)∧Hid (GL w [⟨3,1,.slice Aa (List.length (basI st i)) ca,List.map nac (basI st i)⟩,⟨25,1,.slice Ab (List.length ((basI st i).map (zci f))) cb,List.map za3 ((basI st i).map (zci f))⟩] (fun V=>Blk V w.heap.size 32 #[.int .i64 f.M,.slice f.Ac f.cols.length f.cc,.slice f.Al f.lo.length f.cl,.slice f.Ah f.hi.length f.ch,.slice f.Ak f.cost.length f.ck,.slice f.Ab f.b.length f.cb]∧FoD n f V∧LsR 1 stc (fun _ _=>True) SA st V∧Tz V) (fun _=>True) wr)) (fun _ _ iv _=>f.cols.length-(intOf iv).toNat)
  case atStart=>exact⟨0,none,0,none,0,rfl,rfl,rfl,Nat.zero_le _,znd (fun j h=>absurd h (Nat.not_lt_zero _)),HG⟩
  case round=>
   clear HG
   obtain⟨i,Aa,ca,Ab,cb,rfl,rfl,rfl,hi,HK,HG⟩:=hrel
   by_cases hlt:i<f.cols.length
   ·have his:i<st.length:=by rw[HL.out];exact hlt
    have cs:=HG.out.o.2.2.1.c1 i his
    have cv:=HG.out.o.2.1.cols.vc i hlt
    have HCA:=znd (zbM hlt)
    have HSI:=znd (List.getElem?_eq_getElem his)
    obtain⟨z,hz⟩:∃z,z=st[i]:=⟨_,rfl⟩
    obtain⟨v,hv⟩:∃v,v=f.cols[i]:=⟨_,rfl⟩
    rw[←hz]at cs HSI
    rw[←hv]at cv HCA
    clear hz hv
    have HKN:=znd (fun(hz:z=0∨z=1∨z=2)=>show∀j,j<i+1→∀z,st[j]?=some z→z=0∨z=1∨z=2 from fun j hj y hy=>by
     by_cases e:j=i
     ·subst e;rw[HSI.out]at hy;injection hy with hy;rw[←hy];exact hz
     ·exact HK.out j (by omega) y hy)
    have hBl:=zka st i
    have HBL:=znd (show(basI st i).length≤1000 from by have:=HSm.out.cols;omega)
    clear hBl
    by_cases h0:z=0
    ·subst h0
     have HBY:=znd (zgz HSI.out)
     obtain⟨A1,c1,w1,hrun,hG⟩:=GL.app1 (f:=fun(j:Nat)=>Value.int .i64 (j:Int)) (l:=basI st i) zes zfk rfl (by decide) HG.out i rfl HBL.out
     have Hrun:=znd hrun
     rw[←HBY.out]at hG
     have HG2:=znd hG
     clear hrun hG HG
     skip
     go_upto_region 12 with(at_builtin;refine zac rfl (.tmp 29) (.tmp 31) 79 _ _ _ rfl rfl rfl Hrun.out ?_)
     clear Hrun cv cs
     have HG3:=znd (HG2.out.perm (List.Perm.swap _ _ []))
     clear HG2
     have c:=Blk.cb HG3.out.o.1
     have cv:=HG3.out.o.2.1.cols.vc i hlt
     rw[←zbM hlt,HCA.out]at cv
     obtain⟨A2,c2,w2,hrun,hG⟩:=GL.app1 (f:=fun(v:VeV)=>Value.slice v.A v.ts.length v.c) (l:=(basI st i).map (zci f)) zer zgx rfl (by decide) HG3.out v rfl (by rw[List.length_map];exact HBL.out)
     have e9:(basI st i).map (zci f)++[v]=(basI st (i+1)).map (zci f):=by rw[HBY.out,List.map_append,←HCA.out];rfl
     rw[e9]at hG hrun
     simp only[List.length_map]at hrun
     have Hrun:=znd hrun
     have HG4:=znd (hG.perm (List.Perm.swap _ _ []))
     clear hrun hG HG3 e9
     go_wp2_with (at_builtin;refine zac rfl (.tmp 33) (.tmp 39) 29 _ _ _ rfl rfl rfl Hrun.out ?_)
     clear Hrun c cv
     go_wp2_with fail
     go_roundw
     case rel=>exact⟨i+1,A1,c1,A2,c2,by rw[HBY.out,List.length_append];rfl,rfl,by go_num,by omega,znd (HKN.out (.inl rfl)),HG4⟩
     case measure=>(simp[intOf]<;>omega)
    ·have HBN:=znd (zj9 (st:=st) (i:=i) (by rw[HSI.out];simpa using h0))
     by_cases h12:z=1∨z=2
     ·have HK2:=znd (HKN.out (.inr h12))
      have HG2:=znd (show GL w [⟨3,1,.slice Aa (List.length (basI st (i+1))) ca,List.map nac (basI st (i+1))⟩,⟨25,1,.slice Ab (List.length ((basI st (i+1)).map (zci f))) cb,List.map za3 ((basI st (i+1)).map (zci f))⟩] (fun V=>Blk V w.heap.size 32 #[.int .i64 f.M,.slice f.Ac f.cols.length f.cc,.slice f.Al f.lo.length f.cl,.slice f.Ah f.hi.length f.ch,.slice f.Ak f.cost.length f.ck,.slice f.Ab f.b.length f.cb]∧FoD n f V∧LsR 1 stc (fun _ _=>True) SA st V∧Tz V) (fun _=>True) wr from by rw[HBN.out];exact HG.out)
      clear HG HKN cv
      by_cases h1:z=1
      ·subst h1
       clear h0 h12
       go_wp2_with fail
       go_roundw
       case rel=>exact⟨i+1,Aa,ca,Ab,cb,by rw[HBN.out],by rw[HBN.out],by go_num,by omega,HK2,HG2⟩
       case measure=>(simp[intOf]<;>omega)
      ·obtain rfl:z=2:=h12.resolve_left h1
       clear h0 h12 h1
       go_wp2_with fail
       go_roundw
       case rel=>exact⟨i+1,Aa,ca,Ab,cb,by rw[HBN.out],by rw[HBN.out],by go_num,by omega,HK2,HG2⟩
       case measure=>(simp[intOf]<;>omega)
     ·have h1:¬z=1:=fun e=>h12 (.inl e)
      have h2:¬z=2:=fun e=>h12 (.inr e)
      have b0:(z==0)=false:=by simp[h0]
      have b1:(z==1)=false:=by simp[h1]
      have b2:(z==2)=false:=by simp[h2]
      have HN:=znd (show¬IsB f st from fun hb=>by
       rcases hb.ok z (List.mem_of_getElem? HSI.out)with e|e
       ·exact h0 e
       ·exact h12 e)
      clear h12
      go_wp2_with fail
      exact bodyPost_ret (v:=.tuple #[.slice none 0 0,.pointer none,.bool false]) (by simp[results,Tryz.results34,go_sem]) rfl (SpanRes.no HG.out.bel HN.out)
   ·obtain⟨N,hN⟩:∃N,N=f.cols.length:=⟨_,rfl⟩
    have hiN:i=f.cols.length:=by omega
    have HI9:=znd hiN
    rw[hiN]at HG HK⊢
    clear hiN hlt hi hN
    have hnu:¬((f.cols.length:Nat):Int)<((f.cols.length:Nat):Int):=by omega
    have c:=Blk.cb HG.out.o.1
    have HOK:=znd (show∀z∈st,z=0∨z=1∨z=2 from fun z hz=>by
     obtain⟨j,hj,rfl⟩:=List.mem_iff_getElem.1 hz
     exact HK.out j (by rw[←HL.out];exact hj) _ (List.getElem?_eq_getElem hj))
    by_cases hm:(basI st f.cols.length).length=f.b.length
    ·have HBC:=znd (show∀v∈zbm f st,v∈f.cols from fun v hv=>by
      obtain⟨j,hj,rfl⟩:=List.mem_map.1 hv
      rw[zbM (zcK hj).1];exact List.getElem_mem _)
     have hmm:(((basI st f.cols.length).length:Int) != f.M)=false:=by rw[HM.out,hm];simp
     have hm5:f.b.length≤5:=by have h9:=HSm.out.M;rw[HM.out]at h9;omega
     have HBL:=znd (show(zbm f st).length=f.b.length from by unfold zbm;rw[List.length_map];exact hm)
     have HML:=znd hm
     have HRV:=znd (show∀v∈zbm f st,∀V,Below w.heap.size w V→RightP v.ts (f.b.length:Int) V from fun v hv V hb=>(RightP.same (HVW.out v (HBC.out v hv)) hb).2 (by
      obtain⟨j,hj,rfl⟩:=List.mem_iff_getElem.1 (HBC.out v hv)
      rw[←HM.out];exact HR0.out.col j hj))
     clear hm
     go_wp2_with fail
     rw[HML.out,HM.out]
     refine(zlj _ f.b.length n (by omega) h1n (Nat.le_trans (zcF n hm5) hnl) Ab cb (zbm f st) ⟨((HG.out.own (⟨25,1,.slice Ab (List.length ((basI st f.cols.length).map (zci f))) cb,List.map za3 ((basI st f.cols.length).map (zci f))⟩) (List.mem_cons_of_mem _ (List.mem_cons_self ..))).el).1,fun v hv=>HG.out.o.2.1.cols.ok v (HBC.out v hv)⟩ HBL.out (fun v hv=>HRV.out v hv _ HG.out.bel) HG.out.o.2.2.2).mono ?_
     rintro e w1 ⟨ok,b,rfl,hb,h1,h2⟩
     cases ok
     ·have HS:=znd (h2 rfl)
      have HB9:=znd (HG.out.skip hb).bel
      clear h1 h2 hb
      go_wp2_with fail
      exact bodyPost_ret (v:=.tuple #[.slice none 0 0,.pointer none,.bool false]) (by simp[results,Tryz.results34,go_sem]) rfl (SpanRes.no HB9.out (fun hb=>hb.ns HS.out))
     ·have HF:=znd (h1 rfl)
      have HG2:=znd (HG.out.call HF.out.2.2 hb)
      clear h1 h2 hb HG
      have HGR:=znd (GL.read HG2.out)
      go_wp2_with fail
      exact bodyPost_ret (v:=.tuple #[.slice Aa f.b.length ca,.pointer (some ⟨b.gb,0,none⟩),.bool true]) (by simp[results,Tryz.results34,go_sem]) rfl ⟨true,Aa,ca,b,rfl,HG2.out.bel,fun h=>absurd h (by decide),fun _=>⟨⟨HL.out,HOK.out,HML.out,Fac.not_sing HF.out.1⟩,HF.out.1,HF.out.2.1,(HGR.out.rsn.mono fun _ h=>h.1).imp fun V h=>⟨h.2.1,h.1⟩⟩⟩
    ·have hne:(((basI st f.cols.length).length:Int) != f.M)=true:=by rw[HM.out];simp;omega
     have HNB:=znd (show¬IsB f st from fun hb=>hm hb.m)
     clear hm
     go_wp2_with fail
     exact bodyPost_ret (v:=.tuple #[.slice none 0 0,.pointer none,.bool false]) (by simp[results,Tryz.results34,go_sem]) rfl (SpanRes.no HG.out.bel HNB.out)
 ·have HNB:=znd (show¬IsB f st from fun hb=>hl hb.len)
  have c:=Blk.cb HG.out.o.1
  have hne:(((st.length:Nat):Int) != ((f.cols.length:Nat):Int))=true:=by simp;omega
  unfold fA
  go_enter Tryz.func34,Tryz.ntmps34
  go_wp2_with fail
  exact bodyPost_ret (v:=.tuple #[.slice none 0 0,.pointer none,.bool false]) (by simp[results,Tryz.results34,go_sem]) rfl (SpanRes.no HG.out.bel HNB.out)

structure StO (f:FoV) (gx gf n:Nat) (X:Option Addr) (st:List Int) (SA:Option Addr) (V:World):Prop where
 x:Blk V gx 30 #[.slice X f.cols.length f.cols.length]
 fb:Blk V gf 32 #[.int .i64 f.M,.slice f.Ac f.cols.length f.cc,.slice f.Al f.lo.length f.cl,.slice f.Ah f.hi.length f.ch,.slice f.Ak f.cost.length f.ck,.slice f.Ab f.b.length f.cb]
 fo:FoD n f V
 st:LsR 1 stc (fun _ _=>True) SA st V
 tz:Tz V
def zjK (w:World) (ex:World→Prop) (f:FoV) (gx gf gr n:Nat) (X:Option Addr) (st:List Int) (SA:Option Addr) (xs:List (RV×Rat)) (us:List TeV) (j:Nat) (q:Rat) (M:Nat) (e:Ending) (w':World):Prop:=
 ∃(k:RV) (v:VeV),e=.returned (.tuple #[])∧VF (fun p=>getQ (us.map plq) p+ -q*rowQ f.cols j p) M (us.length+20) v∧GL w [⟨48,4,.slice X f.cols.length f.cols.length,List.map za0 (xs.set j (k,q))⟩,bow gr 25 1 #[.slice v.A (List.length v.ts) v.c]] (fun V=>StO f gx gf n X st SA V∧ex V) (fun V=>(∀p∈(xs.set j (k,q)),roN p V)∧LsR 5 tecells teN v.A v.ts V) w'
set_option maxRecDepth 100000 in
theorem zjo (w W:World) (ex:World→Prop) (f:FoV) (gx gf gr n NU:Nat) (hn:n≤100000000) (h1n:1≤n) (hNU:NU≤10000000000) (h1u:1≤NU) (X:Option Addr) (gX:Nat) (hX:X=some ⟨gX,0,none⟩) (st:List Int) (SA:Option Addr) (xs:List (RV×Rat)) (hxl:xs.length=f.cols.length) (A:Option Addr) (c:Nat) (us:List TeV) (hu:∀t∈us,Sz t.q NU) (hru:Rise us) (hul:us.length≤20)
 (h:GL w [⟨48,4,.slice X f.cols.length f.cols.length,List.map za0 xs⟩,bow gr 25 1 #[.slice A (List.length us) c]] (fun V=>StO f gx gf n X st SA V∧ex V) (fun V=>(∀p∈xs,roN p V)∧LsR 5 tecells teN A us V) W) (j:Nat) (hj:j<f.cols.length) (hrv:Rise f.cols[j].ts∧f.cols[j].ts.length≤20) (r:RV) (q:Rat) (hr:∀V,StO f gx gf n X st SA V→RatD r q n V):
 Calls Tryz.prog 36 #[.int .i64 (j:Int),rA r,.pointer (some ⟨gx,0,none⟩),.pointer (some ⟨gr,0,none⟩),.pointer (some ⟨gf,0,none⟩)] W (zjK w ex f gx gf gr n X st SA xs us j q (NU+(2*n+1)+1)):=by
 have slX:Sl X f.cols.length:=by rw[hX];exact Sl.some_ _ _ _
 have slC:=h.o.1.fo.cols.sl
 have szr:=zal
 have szc:=zaw
 have hadd:=zaa
 have HX:=znd hX
 have HRD:=znd hr
 have HU:=znd hu
 have Hru:=znd hru
 have HG0:=znd h
 have HCV:=znd (show∀V,FoD n f V→V.cell? (adr f.Ac j)=some (.slice (f.cols[j]).A (f.cols[j]).ts.length (f.cols[j]).c)from fun V h=>h.cols.vc j hj)
 have HRV:=znd hrv
 have HLV:=znd (show∀V,FoD n f V→LsR 5 tecells (teD n) (f.cols[j]).A (f.cols[j]).ts V from fun V h=>h.cols.ok _ (List.getElem_mem hj))
 have HRQ:=znd (fun a=>zat (vs:=f.cols) hj a)
 obtain⟨v,hv⟩:∃v,v=f.cols[j]:=⟨_,rfl⟩
 rw[←hv]at HCV HRV HLV HRQ
 clear hv h hX hr hu hru hrv
 have hj0:(0:Int)≤(j:Int):=by omega
 have hj1:(j:Int)<(f.cols.length:Int):=by omega
 have hjx:j<xs.length:=by rw[hxl];omega
 have HXL:=znd hxl
 clear hxl
 unfold rA
 go_enter Tryz.func36,Tryz.ntmps36
 go_upto_region 1 with fail
 obtain⟨W1,g6,hW1,hg6,HG⟩:=HG0.out.al 48 #[.bool r.num.neg,.slice r.num.A r.num.k r.num.c,.bool r.den.neg,.slice r.den.A r.den.k r.den.c]
 rw[hW1,hg6]
 clear hW1 hg6 HG0
 refine wp_region_noPanic ?_
 refine zab 5 (fun V=>CB gx #[.slice X f.cols.length f.cols.length] V∧CB g6 #[.bool r.num.neg,.slice r.num.A r.num.k r.num.c,.bool r.den.neg,.slice r.den.A r.den.k r.den.c] V) (by kernel_rfl) (by with_reducible first|exact⟨Blk.cb HG.out.o.1.x,Blk.cb HG.out.n.1⟩|exact⟨Blk.cb HG.out.drew.o.1.x,Blk.cb HG.out.drew.n.1⟩|exact⟨Blk.cb HG.out.o.1.x,Blk.cb HG.out.n.2.1⟩|exact⟨Blk.cb HG.out.drew.o.1.x,Blk.cb HG.out.drew.n.2.1⟩) (fun hHeld=>?_)
 replace HG:=znd HG.out.drew
 refine gTa 0 7 hHeld ?_
 refine gTa 1 8 hHeld ?_
 refine gTa 2 9 hHeld ?_
 refine gC 3 rfl (by kernel_rfl) (by rfl) (fun K hK=>?_)
 clear hHeld
 simp only[q1,q2,q3]
 go_simp
 refine(zaG _ r q n (by omega) h1n (HRD.out _ HG.out.o.1) HG.out.o.1.tz).mono ?_
 rintro e wq ⟨k,rfl,hk9,hb9⟩
 replace HG:=znd (HG.out.call hk9 hb9)
 clear hk9 hb9
 (try(go_wp2_with fail))
 refine hK.out _ _ (by with_reducible first|exact⟨Blk.cb HG.out.o.1.x,Blk.cb HG.out.n.1⟩|exact⟨Blk.cb HG.out.drew.o.1.x,Blk.cb HG.out.drew.n.1⟩|exact⟨Blk.cb HG.out.o.1.x,Blk.cb HG.out.n.2.1⟩|exact⟨Blk.cb HG.out.drew.o.1.x,Blk.cb HG.out.drew.n.2.1⟩) (fun hHeld=>?_)
 clear hK K
 try simp only[p1,p2,p3,p4]
 refine gTa 4 11 hHeld ?_
 have fr:=HG.out.free HX.out (k:=0) rfl
 have rcx:=HG.out.rc (k:=0) rfl hjx
 have hadd2:∀(n j:Nat),(⟨(adr X n).block,(adr X n).off+j,none⟩:Addr)=adr X (n+j):=fun n j=>by unfold adr;simp[Nat.add_assoc]
 have hs01:=za1 X (show j*4≠j*4+1 by omega)
 have hs02:=za1 X (show j*4≠j*4+2 by omega)
 have hs03:=za1 X (show j*4≠j*4+3 by omega)
 have hs12:=za1 X (show j*4+1≠j*4+2 by omega)
 have hs13:=za1 X (show j*4+1≠j*4+3 by omega)
 have hs23:=za1 X (show j*4+2≠j*4+3 by omega)
 refine gL rfl (by kernel_rfl) (by kernel_rfl) (by rfl) (fun K hK=>?_)
 clear hHeld
 simp only[q1,q2,q3]
 go_simp
 (try(go_wp2_with fail))
 refine hK.out _ _ ?_
 clear hK K
 try simp only[p1,p2,p3,p4]
 refine NoPanic.normal ?_
 clear rcx fr hadd2 hs01 hs02 hs03 hs12 hs13 hs23
 have HG2:=znd (show GL w [⟨48,4,.slice X f.cols.length f.cols.length,List.map za0 (xs.set j (k,q))⟩,bow gr 25 1 #[.slice A (List.length us) c]] (fun V=>StO f gx gf n X st SA V∧ex V) (fun V=>Blk V g6 48 #[.bool r.num.neg,.slice r.num.A r.num.k r.num.c,.bool r.den.neg,.slice r.den.A r.den.k r.den.c]∧(∀p∈(xs.set j (k,q)),roN p V)∧LsR 5 tecells teN A us V) _ from(HG.out.putR HX.out (k:=0) rfl hjx k q).imp (fun _ h=>h) (fun V h=>⟨h.2.1,zb2 (P:=fun p=>roN p V) h.2.2.1 h.1,h.2.2.2⟩))
 clear HG
 have HG:=HG2
 clear HG2
 generalize World.setCell _ _ _=Wz at HG⊢
 go_upto_region 2 with fail
 refine wp_region_noPanic ?_
 refine zab 9 (fun V=>(CB gr #[.slice A (List.length us) c] V∧V.cell? (adr f.Ac j)=some (.slice v.A v.ts.length v.c))∧CB gf #[.int .i64 f.M,.slice f.Ac f.cols.length f.cc,.slice f.Al f.lo.length f.cl,.slice f.Ah f.hi.length f.ch,.slice f.Ak f.cost.length f.ck,.slice f.Ab f.b.length f.cb] V∧CB g6 #[.bool r.num.neg,.slice r.num.A r.num.k r.num.c,.bool r.den.neg,.slice r.den.A r.den.k r.den.c] V) (by kernel_rfl) (by with_reducible first|exact⟨⟨(HG.out).cb (k:=1) rfl,HCV.out _ (HG.out).o.1.fo⟩,Blk.cb (HG.out).o.1.fb,Blk.cb (HG.out).n.1⟩|exact⟨⟨(HG.out.drew).cb (k:=1) rfl,HCV.out _ (HG.out.drew).o.1.fo⟩,Blk.cb (HG.out.drew).o.1.fb,Blk.cb (HG.out.drew).n.1⟩|exact⟨⟨(HG.out).cb (k:=1) rfl,HCV.out _ (HG.out).o.1.fo⟩,Blk.cb (HG.out).o.1.fb,Blk.cb (HG.out).n.2.1⟩|exact⟨⟨(HG.out.drew).cb (k:=1) rfl,HCV.out _ (HG.out.drew).o.1.fo⟩,Blk.cb (HG.out.drew).o.1.fb,Blk.cb (HG.out.drew).n.2.1⟩|exact⟨⟨(HG.out).cb (k:=1) rfl,HCV.out _ (HG.out).o.1.fo⟩,Blk.cb (HG.out).o.1.fb,Blk.cb (HG.out).n.2.2.1⟩|exact⟨⟨(HG.out.drew).cb (k:=1) rfl,HCV.out _ (HG.out.drew).o.1.fo⟩,Blk.cb (HG.out.drew).o.1.fb,Blk.cb (HG.out.drew).n.2.2.1⟩) (fun hHeld=>?_)
 replace HG:=znd HG.out.drew
 refine gTa 0 12 hHeld ?_
 refine gTa 1 13 hHeld ?_
 refine gTa 3 15 hHeld ?_
 refine gTa 4 16 hHeld ?_
 refine gTa 5 17 hHeld ?_
 refine gTa 6 18 hHeld ?_
 refine gTa 7 19 hHeld ?_
 refine gC 2 rfl (by kernel_rfl) (by rfl) (fun K hK=>?_)
 clear hHeld
 simp only[q1,q2,q3]
 go_simp
 refine(zgk _ r q n (by omega) h1n (HRD.out _ HG.out.o.1) HG.out.o.1.tz).mono ?_
 rintro e wq ⟨k2,rfl,hk9,hb9⟩
 replace HG:=znd (HG.out.call hk9 hb9)
 clear hk9 hb9
 (try(go_wp2_with fail))
 refine hK.out _ _ (by with_reducible first|exact⟨⟨(HG.out).cb (k:=1) rfl,HCV.out _ (HG.out).o.1.fo⟩,Blk.cb (HG.out).o.1.fb,Blk.cb (HG.out).n.1⟩|exact⟨⟨(HG.out.drew).cb (k:=1) rfl,HCV.out _ (HG.out.drew).o.1.fo⟩,Blk.cb (HG.out.drew).o.1.fb,Blk.cb (HG.out.drew).n.1⟩|exact⟨⟨(HG.out).cb (k:=1) rfl,HCV.out _ (HG.out).o.1.fo⟩,Blk.cb (HG.out).o.1.fb,Blk.cb (HG.out).n.2.1⟩|exact⟨⟨(HG.out.drew).cb (k:=1) rfl,HCV.out _ (HG.out.drew).o.1.fo⟩,Blk.cb (HG.out.drew).o.1.fb,Blk.cb (HG.out.drew).n.2.1⟩|exact⟨⟨(HG.out).cb (k:=1) rfl,HCV.out _ (HG.out).o.1.fo⟩,Blk.cb (HG.out).o.1.fb,Blk.cb (HG.out).n.2.2.1⟩|exact⟨⟨(HG.out.drew).cb (k:=1) rfl,HCV.out _ (HG.out.drew).o.1.fo⟩,Blk.cb (HG.out.drew).o.1.fb,Blk.cb (HG.out.drew).n.2.2.1⟩) (fun hHeld=>?_)
 clear hK K
 try simp only[p1,p2,p3,p4]
 refine gC 8 rfl (by kernel_rfl) (by rfl) (fun K hK=>?_)
 clear hHeld
 simp only[q1,q2,q3]
 go_simp
 refine(zdp _ NU n (by omega) (by omega) h1u h1n A v.A c v.c us v.ts k2 (-q) (LsR.imp HG.out.n.2.2.2 (fun t ht h=>RatN.rat h (HU.out t ht))) (HLV.out _ HG.out.o.1.fo) (RatN.rat HG.out.n.1 (RatD.sz (HRD.out _ HG.out.o.1) h1n).neg) Hru.out HRV.out.1 (by omega) (by have:=HRV.out.2;omega) HG.out.o.1.tz).mono ?_
 intro e wq hret
 obtain⟨v3,rfl,hk9,hb9⟩:=RetC.v hret
 replace HG:=znd (HG.out.call hk9 hb9)
 clear hret hk9 hb9
 (try(go_wp2_with fail))
 refine hK.out _ _ (by with_reducible first|exact⟨⟨(HG.out).cb (k:=1) rfl,HCV.out _ (HG.out).o.1.fo⟩,Blk.cb (HG.out).o.1.fb,Blk.cb (HG.out).n.1⟩|exact⟨⟨(HG.out.drew).cb (k:=1) rfl,HCV.out _ (HG.out.drew).o.1.fo⟩,Blk.cb (HG.out.drew).o.1.fb,Blk.cb (HG.out.drew).n.1⟩|exact⟨⟨(HG.out).cb (k:=1) rfl,HCV.out _ (HG.out).o.1.fo⟩,Blk.cb (HG.out).o.1.fb,Blk.cb (HG.out).n.2.1⟩|exact⟨⟨(HG.out.drew).cb (k:=1) rfl,HCV.out _ (HG.out.drew).o.1.fo⟩,Blk.cb (HG.out.drew).o.1.fb,Blk.cb (HG.out.drew).n.2.1⟩|exact⟨⟨(HG.out).cb (k:=1) rfl,HCV.out _ (HG.out).o.1.fo⟩,Blk.cb (HG.out).o.1.fb,Blk.cb (HG.out).n.2.2.1⟩|exact⟨⟨(HG.out.drew).cb (k:=1) rfl,HCV.out _ (HG.out.drew).o.1.fo⟩,Blk.cb (HG.out.drew).o.1.fb,Blk.cb (HG.out.drew).n.2.2.1⟩) (fun hHeld=>?_)
 clear hK K
 try simp only[p1,p2,p3,p4]
 have cr:=HG.out.cb (k:=1) rfl
 refine gL rfl (by kernel_rfl) (by kernel_rfl) (by rfl) (fun K hK=>?_)
 clear hHeld
 simp only[q1,q2,q3]
 go_simp
 (try(go_wp2_with fail))
 refine hK.out _ _ ?_
 clear hK K
 try simp only[p1,p2,p3,p4]
 refine NoPanic.normal ?_
 clear cr
 have HG2:=znd (show GL w [⟨48,4,.slice X f.cols.length f.cols.length,List.map za0 (xs.set j (k,q))⟩,bow gr 25 1 #[.slice v3.A (List.length v3.ts) v3.c]] (fun V=>StO f gx gf n X st SA V∧ex V) (fun V=>(∀p∈(xs.set j (k,q)),roN p V)∧LsR 5 tecells teN v3.A v3.ts V) _ from(HG.out.pc (k:=1) rfl (i:=0) (by decide) (.slice v3.A v3.ts.length v3.c)).imp (fun _ h=>h) (fun V h=>⟨h.2.2.2.1,h.1.2⟩))
 have HVF:=znd HG.out.n.1.1
 clear HG
 go_wp2_with fail
 go_end0
 exact⟨k,v3,rfl,⟨HVF.out.1,HVF.out.2.1,by have h9:=HVF.out.2.2.1;have:=HRV.out.2;omega,fun a=>by show _=getQ (us.map plq) a+ -q*rowQ f.cols j a;rw[HRQ.out];exact HVF.out.2.2.2 a⟩,HG2.out⟩
end Go.Proofs.YtfdmajmhmligpaaGreatDoor
