/-
 limbs: Gcd.
-/
import Derived.Test.YtfdmajmhmligpaaGreatDoorHalv
namespace Go.Proofs.YtfdmajmhmligpaaGreatDoor
set_option maxHeartbeats 400000
open Go.RowKit

theorem InBlk.later {w w':World} {g:Nat} {A:Option Addr} {k c:Nat} {l:List Nat} (h:InBlk w g A k c l) (hb:Below w.heap.size w w'):InBlk w' g A k c l:=by
 refine⟨h.len,?_⟩
 rcases h.at_ with h|⟨rfl,hc,s,hs,r⟩
 ·exact .inl h
 ·exact .inr ⟨rfl,hc,s,hs.below hb hs.lt,r⟩
theorem InBlk.glt {w:World} {g:Nat} {A:Option Addr} {k c:Nat} {l:List Nat} (h:InBlk w g A k c l) (hl:l≠[]):g<w.heap.size:=by
 rcases h.at_ with⟨h,-⟩|⟨rfl,hc,s,hs,r⟩
 ·exact absurd h hl
 ·exact hs.lt
theorem zas {X:Nat} (h:X≠0):0<(digs B64 X).length:=by
 rcases Nat.eq_zero_or_pos (digs B64 X).length with e|e
 ·exact absurd ((zaT (by decide)).1 (List.eq_nil_of_length_eq_zero e)) h
 ·exact e
theorem zbU {X Y:Nat} (h:(digs B64 X).length<(digs B64 Y).length):X<Y:=by
 have:=zaP (b:=B64) (by decide) (zbi (by decide) X) (zc1 (by decide) Y) h
 rwa [zar (by decide),zar (by decide)]at this
structure GcI (w wr:World) (K gk G:Nat) (xv yv:Value):Prop where
 ex:∃ga gb ca cb X Y A B,xv=.slice A (digs B64 X).length ca∧yv=.slice B (digs B64 Y).length cb∧InBlk wr ga A (digs B64 X).length ca (digs B64 X)∧InBlk wr gb B (digs B64 Y).length cb (digs B64 Y)∧(X=0∨Y=0∨ga≠gb)∧w.heap.size≤ga∧w.heap.size≤gb∧(digs B64 X).length≤K∧(digs B64 Y).length≤K∧Nat.gcd X Y=G∧gk=X+Y
 below:Below w.heap.size w wr

set_option maxRecDepth 100000 in
theorem zlV (w:World) (A B:Option Addr) (c d K:Nat) (l m:List Nat) (hK:K≤900000000000) (hl:l.length≤K) (hm:m.length≤K) (ha:Rd w .u64 A l) (hb:Rd w .u64 B m) (hx:∀x∈l,x<B64) (hy:∀x∈m,x<B64) (hT:Tz w):
 Calls Tryz.prog 122 #[.slice A l.length c,.slice B m.length d] w (RetL .u64 (digs B64 (Nat.gcd (val B64 l) (val B64 m))) w):=by
 have h1:=zcg w A c l (by omega) ha
 rw[zb5 (b:=B64) (by decide) hx]at h1
 have hlx:(digs B64 (val B64 l)).length≤K:=zbG (Nat.lt_of_lt_of_le (zdo hx) (Nat.pow_le_pow_right za4 hl))
 have hly:(digs B64 (val B64 m)).length≤K:=zbG (Nat.lt_of_lt_of_le (zdo hy) (Nat.pow_le_pow_right za4 hm))
 have H1:=znd (h1.mono fun _ _ h=>h.own (by omega) (zbi (by decide) _))
 have H2:=znd (fun W (hr:Rd W .u64 B m)=>((zcg W B d m (by omega) hr).mono fun _ _ h=>h.own (by rw[za5];have:=zay m;omega) (zbp hy)))
 rw[zb5 (b:=B64) (by decide) hy]at H2
 have Hb:=znd hb;have HT:=znd hT
 clear ha hb hx hy hT h1
 generalize val B64 l=X0 at*
 generalize val B64 m=Y0 at*
 go_enter Tryz.func122,Tryz.ntmps122
 go_wp2_with fail
 refine H1.out.mono ?_
 clear H1
 rintro e w1 ⟨A1,c1,rfl,ho1,hb1⟩
 have Ho1:=znd ho1;have Hb1:=znd hb1
 clear ho1 hb1
 go_wp2_with fail
 refine(H2.out _ (Hb.out.below Hb1.out (Nat.le_refl _))).mono ?_
 clear H2
 rintro e w2 ⟨A2,c2,rfl,ho2,hb2⟩
 have HI:=znd (show GcI w w2 K (X0+Y0) (Nat.gcd X0 Y0) (.slice A1 (digs B64 X0).length c1) (.slice A2 (digs B64 Y0).length c2)from by
  obtain⟨g1,hg1,hi1⟩:=Ho1.out
  obtain⟨g2,hg2,hi2⟩:=ho2
  refine⟨⟨g1,g2,c1,c2,X0,Y0,A1,A2,rfl,rfl,hi1.later hb2,hi2,?_,hg1,Nat.le_trans Hb1.out.size hg2,hlx,hly,rfl,rfl⟩,Below.after Hb1.out hb2⟩
  by_cases h0:X0=0
  ·exact .inl h0
  ·have:=hi1.glt (fun e=>h0 ((zaT (by decide)).1 e))
   exact .inr (.inr (by omega)))
 clear ho2 hb2 Ho1 Hb1 hlx hly hl hm
 generalize X0+Y0=gk0 at*
 generalize Nat.gcd X0 Y0=G at*
 go_wp2_with fail
 go_loopg [5,6] gk0 (fun gk xv yv wr=>GcI w wr K gk G xv yv)
 case atStart=>exact HI.out
 case round=>
  clear HI
  obtain⟨ga,gb,ca,cb,X,Y,A,B,rfl,rfl,hx,hy,hd,hga,hgb,hxl,hyl,hG,rfl⟩:=hrel.ex
  have Hbel:=znd hrel.below
  have Hx:=znd hx;have Hy:=znd hy;have HGG:=znd hG;have Hd:=znd hd
  have HTr:=znd (HT.out.below hrel.below)
  clear hrel hx hy hG hd
  rcases Nat.lt_trichotomy (digs B64 X).length (digs B64 Y).length with hlt|heq|hgt
  ·have hXY:X<Y:=zbU hlt
   have hne:(((digs B64 X).length:Int) != ((digs B64 Y).length:Int))=true:=by rw[bne_iff_ne];omega
   by_cases hz:X=0
   ·have hzl:(((digs B64 X).length:Int)==0)=true:=by rw[hz];rfl
    have Hfin:=znd (show G=Y by rw[←HGG.out,hz];simp)
    have HO:=znd (show RetO (digs B64 Y) w (.returned (.slice B (digs B64 Y).length cb)) wr from⟨B,cb,rfl,⟨gb,hgb,Hy.out⟩,Hbel.out⟩)
    clear hz hXY
    generalize (digs B64 X).length=nx at*
    generalize (digs B64 Y).length=ny at*
    go_wp2_with fail
    go_ret
    rw[Hfin.out]
    exact HO.out.ret
   ·have hzl:(((digs B64 X).length:Int)==0)=false:=by simp;have:=zas hz;intro e;rw[e]at this;simp at this
    have hrx:=Hy.out.rd
    have hry:=Hx.out.rd
    have hdm:=zdb wr B A cb ca (digs B64 Y) (digs B64 X) (by omega) (by omega) (by rcases hrx.2.2 with h|h;exact h;rw[h];exact Nat.zero_le _) (by rcases hry.2.2 with h|h;exact h;rw[h];exact Nat.zero_le _) hrx.1 hry.1 (zbi (by decide) _) (zbi (by decide) _) (by rw[zar (by decide)];exact hz)
    rw[zar (by decide),zar (by decide)]at hdm
    have Hdm:=znd hdm
    have Hz:=znd hz;have HXY:=znd hXY
    clear hdm hrx hry hz hXY
    generalize hnx:(digs B64 X).length=nx at*
    generalize hny:(digs B64 Y).length=ny at*
    have Hnx:=znd hnx;have Hny:=znd hny
    clear hnx hny
    go_wp2_with fail
    refine Hdm.out.mono ?_
    clear Hdm
    rintro e w3 ⟨A3,c3,A4,c4,rfl,-,-,-,-,hb3,-,-,ho4⟩
    have HI:=znd (show GcI w w3 K (Y%X+X) G (.slice A4 (digs B64 (Y%X)).length c4) (.slice A nx ca)from by
     obtain⟨g4,hg4,hi4⟩:=ho4
     have hml:Y%X<X:=Nat.mod_lt _ (Nat.pos_of_ne_zero Hz.out)
     have hyin:=Hx.out
     rw[←Hnx.out]at hyin⊢
     refine⟨⟨g4,ga,c4,ca,Y%X,X,A4,A,rfl,rfl,hi4,hyin.later hb3,?_,Nat.le_trans Hbel.out.size hg4,hga,?_,by first|exact hxl|(rw[Hnx.out];exact hxl),?_,rfl⟩,Below.after Hbel.out hb3⟩
     ·have:=hyin.glt (fun e=>Hz.out ((zaT (by decide)).1 e))
      exact .inr (.inr (by omega))
     ·exact Nat.le_trans (zbG (Nat.lt_trans hml (zaF (Nat.le_refl _)))) (by first|exact hxl|(rw[Hnx.out];exact hxl))
     ·rw[←Nat.gcd_rec,Nat.gcd_comm];exact(by rw[Nat.gcd_comm];exact HGG.out))
    have Hms:=znd (show Y%X+X<X+Y from by have:=Nat.mod_lt Y (Nat.pos_of_ne_zero Hz.out);have:=HXY.out;omega)
    clear ho4 hb3
    generalize (digs B64 (Y%X)).length=n4 at*
    go_wp2_with fail
    go_roundg (Y%X+X)
    case measure=>exact Hms.out
    case rel=>exact HI.out
  ·have hne:(((digs B64 X).length:Int) != ((digs B64 Y).length:Int))=false:=by simp[heq]
   by_cases hz:X=0
   ·have hzl:(((digs B64 X).length:Int)==0)=true:=by rw[hz];rfl
    have hzy:Y=0:=by
     rcases Nat.eq_zero_or_pos Y with h|h
     ·exact h
     ·have h5:=zas (X:=Y) (by omega);rw[←heq,hz]at h5;simp[zbF]at h5
    have Hfin:=znd (show digs B64 G=[] by rw[←HGG.out,hz,hzy];rfl)
    clear hz hzy heq
    generalize (digs B64 X).length=nx at*
    generalize (digs B64 Y).length=ny at*
    go_wp2_with fail
    go_ret
    rw[Hfin.out]
    exact⟨none,0,rfl,Nat.le_refl _,Rd.nil_ _ _,Hbel.out,Fr.none_ _ _⟩
   ·have hzl:(((digs B64 X).length:Int)==0)=false:=by simp;have:=zas hz;intro e;rw[e]at this;simp at this
    have hzy:Y≠0:=by
     intro h
     have h5:=zas hz;rw[heq,h]at h5;simp[zbF]at h5
    obtain⟨rfl,sa,hna⟩:=NumIn.of_in Hx.out hz (zaF hxl) hK
    obtain⟨rfl,sb,hnb⟩:=NumIn.of_in Hy.out hzy (zaF hyl) hK
    have Hh:=znd (zg8 wr ga gb _ ca _ cb X Y sa sb (by rcases Hd.out with h|h|h;exact absurd h hz;exact absurd h hzy;exact h) hna hnb hz hzy HTr.out)
    rw[HGG.out]at Hh
    clear hz hzy heq hna hnb
    generalize (digs B64 X).length=nx at*
    generalize (digs B64 Y).length=ny at*
    go_wp2_with fail
    refine Hh.out.mono ?_
    rintro e w3 ⟨A3,c3,rfl,hc3,hr3,hf3,ht3⟩
    have HR:=znd (And.intro hc3 (And.intro hr3 hf3))
    have HB:=znd (show Below w.heap.size w w3 from⟨ht3.os.trans Hbel.out.os,ht3.tape.trans Hbel.out.tape,ht3.output.trans Hbel.out.output,Nat.le_trans Hbel.out.size ht3.size,fun k hk=>(ht3.block k (Nat.lt_of_lt_of_le hk Hbel.out.size) (by omega) (by omega)).trans (Hbel.out.block k hk)⟩)
    have Hsz:=znd Hbel.out.size
    clear hc3 hr3 hf3 ht3
    go_wp2_with fail
    go_ret
    exact⟨A3,c3,rfl,HR.out.1,HR.out.2.1,HB.out,fun i hi=>Nat.le_trans Hsz.out (HR.out.2.2 i hi)⟩
  ·have hXY:Y<X:=zbU hgt
   have hne:(((digs B64 X).length:Int) != ((digs B64 Y).length:Int))=true:=by rw[bne_iff_ne];omega
   have hnl:¬(digs B64 X).length<(digs B64 Y).length:=by omega
   by_cases hz:Y=0
   ·have hzl:(((digs B64 Y).length:Int)==0)=true:=by rw[hz];rfl
    have Hfin:=znd (show G=X by rw[←HGG.out,hz];simp)
    have HO:=znd (show RetO (digs B64 X) w (.returned (.slice A (digs B64 X).length ca)) wr from⟨A,ca,rfl,⟨ga,hga,Hx.out⟩,Hbel.out⟩)
    clear hz hXY
    generalize (digs B64 X).length=nx at*
    generalize (digs B64 Y).length=ny at*
    go_wp2_with fail
    go_ret
    rw[Hfin.out]
    exact HO.out.ret
   ·have hzl:(((digs B64 Y).length:Int)==0)=false:=by simp;have:=zas hz;intro e;rw[e]at this;simp at this
    have hrx:=Hx.out.rd
    have hry:=Hy.out.rd
    have hdm:=zdb wr A B ca cb (digs B64 X) (digs B64 Y) (by omega) (by omega) (by rcases hrx.2.2 with h|h;exact h;rw[h];exact Nat.zero_le _) (by rcases hry.2.2 with h|h;exact h;rw[h];exact Nat.zero_le _) hrx.1 hry.1 (zbi (by decide) _) (zbi (by decide) _) (by rw[zar (by decide)];exact hz)
    rw[zar (by decide),zar (by decide)]at hdm
    have Hdm:=znd hdm
    have Hz:=znd hz;have HXY:=znd hXY
    clear hdm hrx hry hz hXY
    generalize hnx:(digs B64 X).length=nx at*
    generalize hny:(digs B64 Y).length=ny at*
    have Hnx:=znd hnx;have Hny:=znd hny
    clear hnx hny
    go_wp2_with fail
    refine Hdm.out.mono ?_
    clear Hdm
    rintro e w3 ⟨A3,c3,A4,c4,rfl,-,-,-,-,hb3,-,-,ho4⟩
    have HI:=znd (show GcI w w3 K (X%Y+Y) G (.slice A4 (digs B64 (X%Y)).length c4) (.slice B ny cb)from by
     obtain⟨g4,hg4,hi4⟩:=ho4
     have hml:X%Y<Y:=Nat.mod_lt _ (Nat.pos_of_ne_zero Hz.out)
     have hyin:=Hy.out
     rw[←Hny.out]at hyin⊢
     refine⟨⟨g4,gb,c4,cb,X%Y,Y,A4,B,rfl,rfl,hi4,hyin.later hb3,?_,Nat.le_trans Hbel.out.size hg4,hgb,?_,by first|exact hyl|(rw[Hny.out];exact hyl),?_,rfl⟩,Below.after Hbel.out hb3⟩
     ·have:=hyin.glt (fun e=>Hz.out ((zaT (by decide)).1 e))
      exact .inr (.inr (by omega))
     ·exact Nat.le_trans (zbG (Nat.lt_trans hml (zaF (Nat.le_refl _)))) (by first|exact hyl|(rw[Hny.out];exact hyl))
     ·rw[←Nat.gcd_rec,Nat.gcd_comm];exact HGG.out)
    have Hms:=znd (show X%Y+Y<X+Y from by have:=Nat.mod_lt X (Nat.pos_of_ne_zero Hz.out);have:=HXY.out;omega)
    clear ho4 hb3
    generalize (digs B64 (X%Y)).length=n4 at*
    go_wp2_with fail
    go_roundg (X%Y+Y)
    case measure=>exact Hms.out
    case rel=>exact HI.out
end Go.Proofs.YtfdmajmhmligpaaGreatDoor
